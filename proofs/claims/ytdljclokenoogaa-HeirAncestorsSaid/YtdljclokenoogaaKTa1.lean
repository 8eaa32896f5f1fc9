/-
  Part 1 (Ta) of the proof: walks of functions and plain facts.
-/
import Derived.Sort.LoopGhostIn
import Derived.Lib.MinMaxS
import Derived.WalkLawsBesides
import Derived.Maps.AppendAt
import Derived.Laws.EntriesVeiled
import Derived.OrdersIn
import Derived.Lib.OthersKept
import Derived.Lib.TrimU
import Derived.Deep.LoopGhost
import Derived.Shelf.Sort.Plain
import Derived.Shelf.Slices.In.SortNone
import Derived.Test.YtdljclokenoogaaProg
import Derived.Test.YtdljclokenoogaaKTa0
set_option linter.unusedVariables false
set_option linter.unusedSimpArgs false
section
namespace Go.Proofs.Ytdljclokenoogaa.Hw
open Go.RowKit Go.Proofs.Ytdljclokenoogaa.Hp Go.Proofs.YtdljclokenoogaaW.PrintWords Go.Proofs.YtdljclokenoogaaW.PrintLast Go.Proofs.YtdljclokenoogaaW.PrintMore
def isDef : Obj → Bool
  | .deferred _ => true
  | _ => false
abbrev Left (H : Nat) (W W' : World) : Prop := Keeps (fun k => k < H ∨ ∃ o, W.heap[k]? = some o ∧ isDef o = false) W W'
def Marks (H : Nat) (ds : List Deferred) (W : World) : Prop :=
  ∃ Ds : List Nat, ds = Ds.map (fun D => ({ target := .collected D, args := #[] } : Deferred)) ∧ Ds.Nodup ∧ ∀ D ∈ Ds, H ≤ D ∧ W.heap[D]? = some (.deferred (some []))
theorem Marks.nil (H : Nat) (W : World) : Marks H [] W := ⟨[], rfl, List.nodup_nil, by simp⟩
theorem Marks.keeps {H : Nat} {ds : List Deferred} {W W' : World} (h : Marks H ds W) (hk : ∀ k o, H ≤ k → W.heap[k]? = some o → isDef o = true → W'.heap[k]? = some o) : Marks H ds W' := by
  obtain ⟨Ds, h1, h2, h3⟩ := h
  exact ⟨Ds, h1, h2, fun D hD => ⟨(h3 D hD).1, hk D _ (h3 D hD).1 (h3 D hD).2 rfl⟩⟩
theorem Marks.below {H n : Nat} {ds : List Deferred} {W W' : World} (h : Marks H ds W) (hb : Below n W W') (hn : W.heap.size ≤ n) : Marks H ds W' :=
  h.keeps (fun k o _ hk _ => (hb.block k (Nat.lt_of_lt_of_le (Array.getElem?_eq_some_iff.1 hk).1 hn)).trans hk)
theorem Marks.alloc {H : Nat} {ds : List Deferred} {W : World} (h : Marks H ds W) (o : Obj) : Marks H ds (W.alloc o) :=
  h.keeps (fun k o' _ hk _ => (Below.heap_alloc W o k (Array.getElem?_eq_some_iff.1 hk).1).trans hk)
theorem Marks.from {H B : Nat} {ds : List Deferred} {W W' : World} (h : Marks H ds W) (hk : KeepsFrom B W W') (hB : B ≤ H) : Marks H ds W' :=
  h.keeps (fun k o hk0 hk1 ho => hk.same k o (Nat.le_trans hB hk0) hk1 (by cases o <;> simp_all [isDef, Obj.isCells]))
theorem Marks.setCell {H : Nat} {ds : List Deferred} {W : World} (h : Marks H ds W) (a : Addr) (v : Value) : Marks H ds (W.setCell a v) :=
  h.from ((KeepsOthers.setCell W a v).from 0) (Nat.zero_le _)
theorem Marks.grown {H : Nat} {ds : List Deferred} {W W' : World} (h : Marks H ds W) {row : Option Nat} (hg : W.grownBy W' row) (hr : ∀ j, row = some j → ∃ o, W.heap[j]? = some o ∧ isDef o = false) : Marks H ds W' :=
  h.keeps (fun k o _ hk ho => (hg.block k (Array.getElem?_eq_some_iff.1 hk).1 (fun e => by obtain ⟨o', h1, h2⟩ := hr k e.symm; rw [hk] at h1; cases h1; rw [ho] at h2; cases h2)).trans hk)
theorem Marks.cons {H D : Nat} {ds : List Deferred} {W W' : World} (h : Marks H ds W) (hlt : W.heap.size ≤ D) (hH : H ≤ W.heap.size) (hD : W'.heap[D]? = some (.deferred (some []))) (h' : Marks H ds W') :
    Marks H ({ target := .collected D, args := #[] } :: ds) W' := by
  obtain ⟨Ds, h1, h2, h3⟩ := h
  obtain ⟨Ds', h1', h2', h3'⟩ := h'
  have e : Ds' = Ds := by
    have hinj : ∀ (a b : List Nat), a.map (fun D => ({ target := .collected D, args := #[] } : Deferred)) = b.map (fun D => ({ target := .collected D, args := #[] } : Deferred)) → a = b := by
      intro a
      induction a with
      | nil => intro b h; cases b with
        | nil => rfl
        | cons => simp at h
      | cons x a ih => intro b h; cases b with
        | nil => simp at h
        | cons y b => simp at h; rw [h.1, ih b (by simpa using h.2)]
    exact hinj _ _ (h1'.symm.trans h1)
  subst e
  refine ⟨D :: Ds', by rw [h1']; rfl, List.nodup_cons.2 ⟨fun hm => ?_, h2⟩, ?_⟩
  · have := (Array.getElem?_eq_some_iff.1 (h3 D hm).2).1; omega
  · intro D' hm
    cases hm with
    | head => exact ⟨by omega, hD⟩
    | tail _ hm => exact h3' D' hm
def DefKeep (H : Nat) (W W' : World) : Prop := ∀ k o, k < H → W.heap[k]? = some o → isDef o = true → W'.heap[k]? = some o
theorem DefKeep.refl (H : Nat) (W : World) : DefKeep H W W := fun _ _ _ h _ => h
theorem DefKeep.below {H : Nat} {W A B : World} (h : DefKeep H W A) (hb : Below H A B) : DefKeep H W B := fun k o hk hw ho => (hb.block k hk).trans (h k o hk hw ho)
theorem DefKeep.setCell {H : Nat} {W A : World} (h : DefKeep H W A) (a : Addr) (v : Value) : DefKeep H W (A.setCell a v) :=
  fun k o hk hw ho => (KeepsOthers.setCell A a v).same k o (h k o hk hw ho) (by cases o <;> simp_all [isDef, Obj.isCells])
theorem DefKeep.grown {H : Nat} {W A B : World} (h : DefKeep H W A) {row : Option Nat} (hg : A.grownBy B row) (hr : ∀ j, row = some j → ∃ o, A.heap[j]? = some o ∧ isDef o = false) : DefKeep H W B :=
  fun k o hk hw ho => by
    have h1 := h k o hk hw ho
    exact (hg.block k (Array.getElem?_eq_some_iff.1 h1).1 (fun e => by obtain ⟨o', h2, h3⟩ := hr k e.symm; rw [h1] at h2; cases h2; rw [ho] at h3; cases h3)).trans h1
theorem Marks.defk {H : Nat} {ds : List Deferred} {W W' : World} (h : Marks H ds W) (hk : DefKeep W.heap.size W W') : Marks H ds W' :=
  h.keeps (fun k o _ hw ho => hk k o (Array.getElem?_eq_some_iff.1 hw).1 hw ho)
theorem IsMap.noDef {W : World} {b : Nat} {m : List (ByteArray × Value)} (h : IsMap W b m) : ∃ o, W.heap[b]? = some o ∧ isDef o = false := by
  obtain ⟨es, clock, h1, _⟩ := h
  exact ⟨_, h1, rfl⟩
theorem Left.refl (H : Nat) (W : World) : Left H W W := Keeps.refl _ _
theorem leave_marks {n : Nat} {P : Program} {fn : Func} {tmps : Array Value} {R : Ending → World → Prop} {H : Nat} {ds : List Deferred} {W : World} (hM : Marks H ds W)
    (h : ∀ W', Left H W W' → ∃ v, (results fn tmps).run P W' = .ok v W' ∧ R (.returned v) W') : LeavesInM Fence.wide n P fn tmps R ds .returning W := by
  obtain ⟨Ds, rfl, hn, hD⟩ := hM
  suffices hs : ∀ (Ds : List Nat) (W1 : World), Ds.Nodup → (∀ D ∈ Ds, H ≤ D ∧ W1.heap[D]? = some (.deferred (some [])) ∧ W.heap[D]? = some (.deferred (some []))) → Left H W W1 →
      LeavesInM Fence.wide n P fn tmps R (Ds.map (fun D => ({ target := .collected D, args := #[] } : Deferred))) .returning W1 from
    hs Ds W hn (fun D h => ⟨(hD D h).1, (hD D h).2, (hD D h).2⟩) (Left.refl _ _)
  clear hn hD Ds
  intro Ds
  induction Ds with
  | nil => intro W1 _ _ hL; exact h W1 hL
  | cons D Ds ih =>
    intro W1 hn hD hL
    obtain ⟨h1, h2, h3⟩ := hD D (by simp)
    refine ⟨by simp, .inl ⟨_, _, rfl, run_takeDeferred h2, ih _ (List.nodup_cons.1 hn).2 ?_ ?_⟩⟩
    · intro D' hm
      obtain ⟨a, b, c⟩ := hD D' (by simp [hm])
      have hne : D' ≠ D := fun e => (List.nodup_cons.1 hn).1 (e ▸ hm)
      exact ⟨a, (World.putObj_heap_other hne).trans b, c⟩
    · refine hL.trans ⟨rfl, rfl, rfl, by simp, ?_⟩
      rintro k (hk | ⟨o, ho, hd⟩)
      · exact World.putObj_heap_other (by omega)
      · refine World.putObj_heap_other (fun e => ?_)
        subst e
        rw [h3] at ho; cases ho; cases hd
theorem Left.cell {H : Nat} {W W' : World} (h : Left H W W') {a : Addr} {v : Value} (hc : W.cell? a = some v) : W'.cell? a = some v := by
  obtain ⟨o, ho, hc'⟩ := cells_of_cell hc
  exact (World.cell?_of_block (h.block _ (.inr ⟨o, ho, by cases o <;> simp_all [isDef, Obj.isCells]⟩))).trans hc
theorem Left.map {H : Nat} {W W' : World} (h : Left H W W') {b : Nat} {m : List (ByteArray × Value)} (hm : IsMap W b m) : IsMap W' b m := by
  obtain ⟨es, clock, h1, h2⟩ := hm
  exact ⟨es, clock, (h.block b (.inr ⟨_, h1, rfl⟩)).trans h1, h2⟩
theorem Left.R {H : Nat} {W W' : World} (h : Left H W W') {α : Type} {d : Kd α} {e base : Nat} {ok : Nat → Prop} {v : Value} {xs : List α} (hr : d.R e W base ok v xs) : d.R e W' base ok v xs :=
  Kd.R_mono (Kd.R_step (Kd.R_bound hr) (fun k hk _ => by obtain ⟨_, _, _, q, _, cells, hc⟩ := hk; exact h.block k (.inr ⟨_, hc, rfl⟩))) (fun k hk => hk.1)
theorem Left.below {H n : Nat} {W W' : World} (h : Left H W W') (hn : n ≤ H) : Below n W W' := Keeps.below h n (fun k hk => .inl (by omega))
end Go.Proofs.Ytdljclokenoogaa.Hw
end
section
namespace Go.Proofs.Ytdljclokenoogaa.Hw
def reach (up : ByteArray → List ByteArray) : Nat → ByteArray → ByteArray → Prop
  | 0, c, a => c = a
  | n + 1, c, a => ∃ p, p ∈ up c ∧ reach up n p a
theorem length_le_of_subset {α : Type} [DecidableEq α] : ∀ (a b : List α), a.Nodup → (∀ x ∈ a, x ∈ b) → a.length ≤ b.length
  | [], b, _, _ => Nat.zero_le _
  | x :: a, b, hn, hs => by
    have hx : x ∈ b := hs x (by simp)
    have h1 := length_le_of_subset a (b.erase x) (List.nodup_cons.1 hn).2 (fun y hy => by
      have hne : y ≠ x := fun e => (List.nodup_cons.1 hn).1 (e ▸ hy)
      exact (List.mem_erase_of_ne hne).2 (hs y (by simp [hy])))
    have h2 := List.length_erase_of_mem hx
    have h3 : 0 < b.length := List.length_pos_of_mem hx
    simp only [List.length_cons]
    omega
theorem mget_key {β : Type} {m : List (ByteArray × β)} {k : ByteArray} : (mget m k).isSome = true ↔ k ∈ m.map (·.1) := by
  induction m with
  | nil => simp [mget]
  | cons a m ih =>
    obtain ⟨x, u⟩ := a
    simp only [mget, List.map_cons, List.mem_cons]
    split
    · rename_i e; subst e; simp
    · rename_i e; rw [ih]; simp [e]
theorem mput_keys {β : Type} (m : List (ByteArray × β)) (k : ByteArray) (v : β) : (mput m k v).map (·.1) = if (mget m k).isSome then m.map (·.1) else m.map (·.1) ++ [k] := by
  induction m with
  | nil => simp [mput, mget]
  | cons a m ih =>
    obtain ⟨x, u⟩ := a
    by_cases e : k = x
    · subst e; simp [mput, mget]
    · have h1 : mget ((x, u) :: m) k = mget m k := by simp [mget, e]
      have h2 : mput ((x, u) :: m) k v = (x, u) :: mput m k v := by simp [mput, e]
      rw [h2, List.map_cons, ih, List.map_cons]
      cases h : (mget m k).isSome <;> simp [h1, h]
def total (D : List (ByteArray × Nat)) : Nat := (D.map (·.2)).sum
theorem total_mput (D : List (ByteArray × Nat)) (k : ByteArray) (v : Nat) : total (mput D k v) + (mget D k).getD 0 = total D + v := by
  induction D with
  | nil => simp [mput, mget, total]
  | cons a D ih =>
    obtain ⟨x, u⟩ := a
    simp only [mput, mget]
    by_cases e : k = x
    · subst e; simp [total]; omega
    · rw [if_neg e, if_neg e]
      simp only [total, List.map_cons, List.sum_cons] at ih ⊢
      omega
structure FarOk (up : ByteArray → List ByteArray) (names : List ByteArray) (to_ : ByteArray) (D : List (ByteArray × Nat)) : Prop where
  one : mget D to_ = some 1
  snd : ∀ k d, mget D k = some d → 1 ≤ d ∧ reach up (d - 1) k to_
  bnd : ∀ k d, mget D k = some d → d ≤ D.length
  nodup : (D.map (·.1)).Nodup
  keys : ∀ k, k ∈ D.map (·.1) → k = to_ ∨ k ∈ names
theorem FarOk.start (up : ByteArray → List ByteArray) (names : List ByteArray) (to_ : ByteArray) : FarOk up names to_ [(to_, 1)] := by
  refine ⟨by simp [mget], ?_, ?_, by simp, by simp⟩
  · intro k d h
    simp only [mget] at h
    split at h
    · cases h; exact ⟨Nat.le_refl _, by simpa [reach]⟩
    · cases h
  · intro k d h
    simp only [mget] at h
    split at h
    · cases h; simp
    · cases h
theorem FarOk.len {up : ByteArray → List ByteArray} {names : List ByteArray} {to_ : ByteArray} {D : List (ByteArray × Nat)} (h : FarOk up names to_ D) : D.length ≤ names.length + 1 := by
  have := length_le_of_subset (D.map (·.1)) (to_ :: names) h.nodup (fun x hx => by simpa using h.keys x hx)
  simpa using this
def better (D : List (ByteArray × Nat)) (c p : ByteArray) : Bool :=
  match mget D p with
  | none => false
  | some n => match mget D c with
    | none => true
    | some w => decide (n + 1 < w)
def relax (D : List (ByteArray × Nat)) (c p : ByteArray) : List (ByteArray × Nat) := if better D c p then mput D c ((mget D p).getD 0 + 1) else D
def Stab (D : List (ByteArray × Nat)) (c p : ByteArray) : Prop := better D c p = false
def pot (N : Nat) (D : List (ByteArray × Nat)) : Nat := (N + 1 - D.length) * (N + 2) + total D
theorem FarOk.relax {up : ByteArray → List ByteArray} {names : List ByteArray} {to_ c p : ByteArray} {D : List (ByteArray × Nat)} (h : FarOk up names to_ D) (hc : c ∈ names) (hp : p ∈ up c) :
    FarOk up names to_ (relax D c p) := by
  unfold Hw.relax
  cases hb : better D c p with
  | false => exact h
  | true =>
    simp only [if_true]
    unfold better at hb
    cases hn : mget D p with
    | none => rw [hn] at hb; cases hb
    | some n =>
      rw [hn] at hb
      have hs := h.snd p n hn
      have hbn := h.bnd p n hn
      have hk := mput_keys D c (n + 1)
      have hlen : D.length ≤ (mput D c (n + 1)).length := by
        have := congrArg List.length hk
        simp only [List.length_map] at this
        rw [this]; split <;> simp
      simp only [Option.getD_some]
      have hr : reach up n c to_ := by
        have : n = (n - 1) + 1 := by omega
        rw [this]; exact ⟨p, hp, hs.2⟩
      have hto : c ≠ to_ := by
        intro e; subst e
        rw [h.one] at hb
        simp at hb
        try omega
      refine ⟨by rw [mget_mput, if_neg (fun e => hto e.symm)]; exact h.one, ?_, ?_, ?_, ?_⟩
      · intro k d hd
        rw [mget_mput] at hd
        split at hd
        · rename_i e; subst e; cases hd; exact ⟨by omega, by simpa using hr⟩
        · exact h.snd k d hd
      · intro k d hd
        rw [mget_mput] at hd
        split at hd
        · cases hd
          cases hw : mget D c with
          | none =>
            have := congrArg List.length hk
            rw [hw] at this
            simp at this
            omega
          | some w =>
            rw [hw] at hb
            have := h.bnd c w hw
            simp at hb; omega
        · exact Nat.le_trans (h.bnd k d hd) hlen
      · rw [hk]
        split
        · exact h.nodup
        · rename_i hnm
          rw [List.nodup_append]
          exact ⟨h.nodup, by simp, fun a ha b hb => by simp at hb; subst hb; exact fun e => hnm (mget_key.2 (e ▸ ha))⟩
      · intro k hk'
        rw [hk] at hk'
        split at hk'
        · exact h.keys k hk'
        · rcases List.mem_append.1 hk' with h1 | h1
          · exact h.keys k h1
          · simp at h1; subst h1; exact .inr hc
theorem pot_relax {up : ByteArray → List ByteArray} {names : List ByteArray} {to_ c p : ByteArray} {D : List (ByteArray × Nat)} (h : FarOk up names to_ D) (hc : c ∈ names) (hp : p ∈ up c) (hb : better D c p = true) :
    pot names.length (relax D c p) < pot names.length D := by
  have h' := h.relax hc hp
  have hl := h.len
  have hl' := h'.len
  unfold Hw.relax at hl' ⊢
  rw [if_pos hb] at hl' ⊢
  unfold better at hb
  cases hn : mget D p with
  | none => rw [hn] at hb; cases hb
  | some n =>
    rw [hn] at hb hl'
    simp only [Option.getD_some] at hl' ⊢
    have hbn := h.bnd p n hn
    have ht := total_mput D c (n + 1)
    have hk := congrArg List.length (mput_keys D c (n + 1))
    unfold pot
    cases hw : mget D c with
    | none =>
      rw [hw] at hk
      simp at hk
      rw [hw] at ht
      simp at ht
      rw [hk] at hl' ⊢
      obtain ⟨x, hx⟩ : ∃ x, names.length + 1 - D.length = x + 1 := ⟨names.length - D.length, by omega⟩
      have hx' : names.length + 1 - (D.length + 1) = x := by omega
      rw [hx, hx', Nat.add_mul]
      omega
    | some w =>
      rw [hw] at hk
      simp at hk
      rw [hw] at ht hb
      simp at ht hb
      rw [hk]
      omega
structure IsFar (up : ByteArray → List ByteArray) (to_ : ByteArray) (D : List (ByteArray × Nat)) : Prop where
  snd : ∀ k d, mget D k = some d → 1 ≤ d ∧ reach up (d - 1) k to_
  min : ∀ n k, reach up n k to_ → ∃ d, mget D k = some d ∧ d ≤ n + 1
theorem FarOk.far {up : ByteArray → List ByteArray} {names : List ByteArray} {to_ : ByteArray} {D : List (ByteArray × Nat)} (h : FarOk up names to_ D) (hs : ∀ c p, c ∈ names → p ∈ up c → Stab D c p) (hup : ∀ c p, p ∈ up c → c ∈ names) : IsFar up to_ D := by
  refine ⟨h.snd, ?_⟩
  intro n
  induction n with
  | zero => intro k hr; cases hr; exact ⟨1, h.one, Nat.le_refl _⟩
  | succ n ih =>
    rintro k ⟨p, hp, hr⟩
    obtain ⟨d, hd, hle⟩ := ih p hr
    have := hs k p (hup k p hp) hp
    unfold Stab better at this
    rw [hd] at this
    cases hw : mget D k with
    | none => rw [hw] at this; cases this
    | some w => rw [hw] at this; simp at this; exact ⟨w, rfl, by omega⟩
end Go.Proofs.Ytdljclokenoogaa.Hw
end
section
namespace Go.Proofs.Ytdljclokenoogaa.Hw
open Go.RowKit Go.Proofs.Ytdljclokenoogaa.Hp Go.Proofs.YtdljclokenoogaaW.PrintWords Go.Proofs.YtdljclokenoogaaW.PrintLast Go.Proofs.YtdljclokenoogaaW.PrintMore
attribute [local go_sem] Oper.semAt_some
def names (l : List S61) : List ByteArray := l.map (·.f0)
theorem idx_mem {l : List S61} {k : ByteArray} : (idx l k).isSome = true ↔ k ∈ names l := by
  induction l with
  | nil => simp [idx, names]
  | cons a l ih =>
    simp only [idx, names, List.map_cons, List.mem_cons] at ih ⊢
    split
    · simp [*]
    · rename_i h; simp [h, ← ih]
theorem ups_mem {l : List S61} {c p : ByteArray} (h : p ∈ ups l c) : c ∈ names l ∧ p ∈ names l := by
  unfold ups at h
  split at h
  · cases h
  · rename_i i hi
    exact ⟨idx_mem.1 (by rw [hi]; rfl), idx_mem.1 (List.mem_filter.1 h).2⟩
theorem ups_len {l : List S61} {n : Nat} (h : ∀ x ∈ l, x.f3.length ≤ n) (c : ByteArray) : (ups l c).length ≤ n := by
  unfold ups
  split
  · exact Nat.zero_le _
  · rename_i i hi
    refine Nat.le_trans (List.length_filter_le _ _) ?_
    rw [List.length_map]
    refine h _ ?_
    simp only [rd_T61, Int.toNat_natCast, List.getD_eq_getElem?_getD, List.getElem?_eq_getElem (idx_lt hi), Option.getD_some]
    exact List.getElem_mem _
def nums (D : List (ByteArray × Nat)) : List (ByteArray × Value) := D.map (fun x => (x.1, Value.int .i64 x.2))
theorem mget_nums (D : List (ByteArray × Nat)) (k : ByteArray) : mget (nums D) k = (mget D k).map (fun d => Value.int .i64 d) := by
  induction D with
  | nil => rfl
  | cons a D ih =>
    obtain ⟨x, u⟩ := a
    simp only [nums, List.map_cons, mget] at ih ⊢
    split
    · rfl
    · exact ih
theorem mput_nums (D : List (ByteArray × Nat)) (k : ByteArray) (d : Nat) : mput (nums D) k (.int .i64 d) = nums (mput D k d) := by
  induction D with
  | nil => rfl
  | cons a D ih =>
    obtain ⟨x, u⟩ := a
    simp only [nums, List.map_cons, mput] at ih ⊢
    split
    · rfl
    · simp [ih]
theorem names_rd {l : List S61} {j : Nat} (h : j < l.length) : (rd_T61 l (j : Int)).f0 ∈ names l := by
  refine List.mem_map.2 ⟨_, ?_, rfl⟩
  simp only [rd_T61, Int.toNat_natCast, List.getD_eq_getElem?_getD, List.getElem?_eq_getElem h, Option.getD_some]
  exact List.getElem_mem _
theorem stab_snoc {D : List (ByteArray × Nat)} {c : ByteArray} {q : ByteArray → Prop} {pre : List { x : ByteArray // q x }} {x : { x : ByteArray // q x }} (h : ∀ p ∈ pre.map (·.1), Stab D c p) (hx : Stab D c x.1) : ∀ p ∈ (pre ++ [x]).map (·.1), Stab D c p := by
  intro p hp
  rw [List.map_append, List.mem_append] at hp
  rcases hp with hp | hp
  · exact h p hp
  · simp at hp; rw [hp]; exact hx
structure FarSt (w : World) (A0 : Option Addr) (n c0 B bo ba : Nat) (D : List (ByteArray × Nat)) (ag : Bool) (W : World) : Prop where
  hB : Below w.heap.size w W
  g0 : W.cell? ⟨w.heap.size, 0, none⟩ = some (.slice A0 n c0)
  g1 : W.cell? ⟨w.heap.size, 1, none⟩ = some (.map (some B))
  o : W.cell? ⟨bo, 0, none⟩ = some (.map (some (w.heap.size + 1)))
  a : W.cell? ⟨ba, 0, none⟩ = some (.bool ag)
  af : W.frozen? ⟨ba, 0, none⟩ = false
  M : IsMap W (w.heap.size + 1) (nums D)
  l1 : w.heap.size + 1 < bo
  l2 : bo < ba
theorem FarSt.lt {w W : World} {A0 : Option Addr} {n c0 B bo ba : Nat} {D : List (ByteArray × Nat)} {ag : Bool} (h : FarSt w A0 n c0 B bo ba D ag W) : ba < W.heap.size := World.block_lt_of_cell? _ _ h.a
theorem FarSt.keeps {w W W' : World} {A0 : Option Addr} {n c0 B bo ba : Nat} {D : List (ByteArray × Nat)} {ag : Bool} (h : FarSt w A0 n c0 B bo ba D ag W) (hk : Keeps (fun k => k ≤ w.heap.size + 1 ∨ k = bo ∨ k = ba) W W') : FarSt w A0 n c0 B bo ba D ag W' :=
  ⟨h.hB.trans (hk.below _ (fun k hk => .inl (by omega))), (hk.cell (p := ⟨w.heap.size, 0, none⟩) (.inl (by simp))).trans h.g0, (hk.cell (p := ⟨w.heap.size, 1, none⟩) (.inl (by simp))).trans h.g1, (hk.cell (p := ⟨bo, 0, none⟩) (.inr (.inl rfl))).trans h.o,
    (hk.cell (p := ⟨ba, 0, none⟩) (.inr (.inr rfl))).trans h.a, (hk.frozen (p := ⟨ba, 0, none⟩) (.inr (.inr rfl))).trans h.af, h.M.keeps hk (.inl (Nat.le_refl _)), h.l1, h.l2⟩
theorem FarSt.below {w W W' : World} {A0 : Option Addr} {n c0 B bo ba k : Nat} {D : List (ByteArray × Nat)} {ag : Bool} (h : FarSt w A0 n c0 B bo ba D ag W) (hb : Below k W W') (hk : ba < k) : FarSt w A0 n c0 B bo ba D ag W' := by
  have h1 := h.l1; have h2 := h.l2
  exact h.keeps (Below.keeps hb (fun k hk => by omega))
theorem FarSt.alloc {w W : World} {A0 : Option Addr} {n c0 B bo ba : Nat} {D : List (ByteArray × Nat)} {ag : Bool} (h : FarSt w A0 n c0 B bo ba D ag W) (x : Obj) : FarSt w A0 n c0 B bo ba D ag (W.alloc x) :=
  h.below ((Below.refl W.heap.size W).alloc (Nat.le_refl _) x) h.lt
theorem cell_set {W : World} {a : Addr} {v u : Value} (h : W.cell? a = some v) : (W.setCell a u).cell? a = some u := World.cell?_setCell_same' _ _ _ (by rw [h]; rfl)
theorem cell_set_ne {W : World} {a p : Addr} (u : Value) (h : p.block ≠ a.block) : (W.setCell a u).cell? p = W.cell? p := World.cell?_of_block (Below.heap_setCell W a u p.block h)
theorem FarSt.again {w W : World} {A0 : Option Addr} {n c0 B bo ba : Nat} {D : List (ByteArray × Nat)} {ag : Bool} (h : FarSt w A0 n c0 B bo ba D ag W) (v : Bool) : FarSt w A0 n c0 B bo ba D v (W.setCell ⟨ba, 0, none⟩ (.bool v)) := by
  have h1 := h.l1; have h2 := h.l2
  exact ⟨h.hB.setCell (p := ⟨ba, 0, none⟩) (by simp; omega) _, (cell_set_ne _ (by simp; omega)).trans h.g0, (cell_set_ne _ (by simp; omega)).trans h.g1, (cell_set_ne _ (by simp; omega)).trans h.o, cell_set h.a, by rw [World.frozen?_setCell]; exact h.af, h.M.setCell _ _, h1, h2⟩
theorem FarSt.stored {w W W' : World} {A0 : Option Addr} {n c0 B bo ba : Nat} {D D' : List (ByteArray × Nat)} {ag : Bool} (h : FarSt w A0 n c0 B bo ba D ag W) (hg : W.grownBy W' (some (w.heap.size + 1))) (hM : IsMap W' (w.heap.size + 1) (nums D')) : FarSt w A0 n c0 B bo ba D' ag W' := by
  have h1 := h.l1; have h2 := h.l2; have h3 := h.lt
  refine ⟨h.hB.grown hg (by omega) (fun k e => by cases e; omega), hg.cell h.g0 (by simp), hg.cell h.g1 (by simp), hg.cell h.o (by simp; omega), hg.cell h.a (by simp; omega), ?_, hM, h1, h2⟩
  rw [World.frozen?_of_block (w := W) (hg.block ba (by omega) (by simp; omega))]; exact h.af
theorem FarSt.fresh {w W : World} {A0 : Option Addr} {n c0 B bo ba : Nat} {D : List (ByteArray × Nat)} {ag : Bool} (h : FarSt w A0 n c0 B bo ba D ag W) : FarSt w A0 n c0 B bo W.heap.size D ag (W.alloc (.cells #[.bool ag] 4)) := by
  have h3 := h.lt
  have h2 := h.l2
  have h' := h.alloc (.cells #[.bool ag] 4)
  exact ⟨h'.hB, h'.g0, h'.g1, h'.o, cell_new _ _ _ _, frozen_new _ _ _ _, h'.M, h'.l1, by omega⟩
set_option maxRecDepth 100000 in
set_option maxHeartbeats 8000000 in
theorem far_calls (A0 : Option Addr) (c0 B : Nat) (l : List S61) (m : List (ByteArray × Value)) (tg : ByteArray) (w : World) (hr : k61.C w A0 l.length l) (hc : l.length ≤ c0) (hl : l.length ≤ 1000) (hM : IsMap w B m) (hm : IsKinds m l) :
    Calls Try.prog 107 #[.agg #[.slice A0 l.length c0, .map (some B)], .string tg] w fun e w' => ∃ Bo D, e = .returned (.map (some Bo)) ∧ w.heap.size ≤ Bo ∧ IsMap w' Bo (nums D) ∧ IsFar (ups l) tg D ∧ (∀ k d, mget D k = some d → d ≤ l.length + 1) ∧ Below w.heap.size w w' := by
  refine (callsIn_wide (n := 20)).1 ?_
  refine callsIn_of_wp_marks Try.func107 rfl trivial ?_
  simp only [Try.ntmps107, List.size_toArray, List.length_cons, List.length_nil, Nat.reduceAdd, Nat.reduceSub, Array.replicate_succ, Array.replicate_zero, List.push_toArray, List.append_toArray, List.nil_append, List.cons_append]
  have hmm := @run_makeMap Try.prog
  have HR := Lib.hid hr
  have HM := Lib.hid hm
  clear hr hm
  have hM0 := IsMap.made (w.alloc (.cells #[.slice A0 l.length c0, .map (some B)] 99))
  obtain ⟨w1, hrun1, hM1, hG1⟩ := hM0.store (P := Try.prog) Try.underlying69 Try.underlying9 tg (.int .i64 1)
  rw [World.size_alloc] at hrun1 hM1 hG1
  have hs1 := hG1.size
  simp only [World.size_alloc] at hs1
  have hB1 : Below w.heap.size w w1 := (((Below.refl _ w).alloc (Nat.le_refl _) _).alloc (by simp) _).grown hG1 (by simp; omega) (fun k e => by cases e; omega)
  have hg0 : w1.cell? ⟨w.heap.size, 0, none⟩ = some (.slice A0 l.length c0) := hG1.cell (by go_simp) (by simp)
  have hg1 : w1.cell? ⟨w.heap.size, 1, none⟩ = some (.map (some B)) := hG1.cell (by go_simp) (by simp)
  replace hM1 : IsMap w1 (w.heap.size + 1) (nums [(tg, 1)]) := hM1
  have hMB : IsMap w1 B m := hM.below hB1 hM.lt
  have hBlt := hM.lt
  have HMB := Lib.hid hM
  clear hM0 hG1 hM
  have hcell1 : ∀ o, ((w1.alloc (.cells #[.map (some (w.heap.size + 1))] 69)).alloc (.cells #[.bool true] 4)).cell? ⟨w.heap.size, o, none⟩ = w1.cell? ⟨w.heap.size, o, none⟩ :=
    fun o => (((Below.refl w1.heap.size w1).alloc (Nat.le_refl _) _).alloc (by simp) _).cell (p := ⟨w.heap.size, o, none⟩) (by simp; omega)
  have hS1 : FarSt w A0 l.length c0 B w1.heap.size (w1.heap.size + 1) [(tg, 1)] true ((w1.alloc (.cells #[.map (some (w.heap.size + 1))] 69)).alloc (.cells #[.bool true] 4)) :=
    ⟨(hB1.alloc hB1.size _).alloc (by have := hB1.size; simp; omega) _, hcell1 0 |>.trans hg0, hcell1 1 |>.trans hg1, by go_simp, by go_simp, by go_simp, (hM1.alloc _).alloc _, by omega, by omega⟩
  have HS1 := Lib.hid hS1
  clear hS1 hcell1
  gi_wp2_with fail
  clear hg0 hg1 hM1 hMB hrun1
  clear hmm
  refine wpIn_loop_ghost_k (fun gk a' W => ∃ (u0 u1 u3 u7 u8 u9 u10 u11 u12 u13 u14 u15 u16 u17 u18 u19 u20 u21 u22 u23 u24 u25 u26 u27 u28 u29 u30 u31 u32 u33 u34 u35 u36 u37 u38 u39 u40 u41 u42 u43 u44 u45 u46 u47 u48 u49 u50 u51 u52 u53 u54 u55 u56 u57 u58 u59 u60 u61 : Value) (ds : List Deferred) (D : List (ByteArray × Nat)) (ba : Nat) (ag : Bool), Aside0 (FarSt w A0 l.length c0 B w1.heap.size ba D ag W ∧ Marks w.heap.size ds W ∧ FarOk (ups l) (names l) tg D ∧ 2 * pot (names l).length D + (if ag then 1 else 0) < gk ∧ (ag = false → ∀ c p, c ∈ names l → p ∈ ups l c → Stab D c p)) ∧
    a' = { tmps := #[u0, u1, .pointer (some ⟨w.heap.size, 0, none⟩), u3, .map none, .pointer (some ⟨w1.heap.size, 0, none⟩), .pointer (some ⟨ba, 0, none⟩), u7, u8, u9, u10, u11, u12, u13, u14, u15, u16, u17, u18, u19, u20, u21, u22, u23, u24, u25, u26, u27, u28, u29, u30, u31, u32, u33, u34, u35, u36, u37, u38, u39, u40, u41, u42, u43, u44, u45, u46, u47, u48, u49, u50, u51, u52, u53, u54, u55, u56, u57, u58, u59, u60, u61], defers := ds }) (2 * pot (names l).length [(tg, 1)] + 2) ?_ ?_
  · repeat apply Exists.intro
    exact ⟨⟨HS1.out, Marks.nil _ _, FarOk.start _ _ _, by simp, by simp⟩, rfl⟩
  · rintro gk a' W ⟨u0, u1, u3, u7, u8, u9, u10, u11, u12, u13, u14, u15, u16, u17, u18, u19, u20, u21, u22, u23, u24, u25, u26, u27, u28, u29, u30, u31, u32, u33, u34, u35, u36, u37, u38, u39, u40, u41, u42, u43, u44, u45, u46, u47, u48, u49, u50, u51, u52, u53, u54, u55, u56, u57, u58, u59, u60, u61, ds, D, ba, ag, hrel, rfl⟩ J K hJ hK
    have hS := hrel.out.1
    have ha := hS.a
    have HJ := Lib.hid hJ
    clear hJ
    cases ag with
    | false =>
      have ho := hS.o
      gi_wp2_with fail
      obtain ⟨_, hMk, hok, _, hst⟩ := hrel.out
      exact leave_marks hMk (fun W' hL => ⟨_, results_tmp rfl _ _ _, _, rfl, by omega, D, hL.map hS.M, hok.far (hst (by first | rfl | trivial)) (fun c p h => (ups_mem h).1), fun k d hd => by have h1 := hok.bnd k d hd; have h2 := hok.len; simp [names] at h2; omega, hS.hB.trans (hL.below (Nat.le_refl _))⟩)
    | true =>
      have hf := hS.af
      have hS2 := hS.again false
      have hg0 := hS2.g0
      have hlt := hS2.lt
      gi_wp2_with fail
      obtain ⟨W1, hW1⟩ : ∃ W1, W.setCell ⟨ba, 0, none⟩ (.bool false) = W1 := ⟨_, rfl⟩
      rw [hW1] at hS2 hg0 hlt ⊢
      have hMk1 : Marks w.heap.size ds W1 := by rw [← hW1]; exact hrel.out.2.1.setCell _ _
      have hok := hrel.out.2.2.1
      have hpot := hrel.out.2.2.2.1
      have HREL := Lib.hid (And.intro hMk1 (And.intro hok hpot))
      clear hW1 hS ha hf hrel hMk1 hok hpot hg0
      refine wpIn_loop_ghost_k (fun gj a' W' => ∃ (u0 u1 u3 u7 u8 u9 u10 u11 u12 u13 u14 u15 u16 u17 u18 u22 u23 u24 u25 u26 u27 u28 u29 u30 u31 u32 u33 u34 u35 u36 u37 u38 u39 u40 u41 u42 u43 u44 u45 u46 u47 u48 u49 u50 u51 u52 u53 u54 u55 u56 u57 u58 u59 u60 u61 : Value) (ds' : List Deferred) (D' : List (ByteArray × Nat)) (ag' : Bool) (j : Nat), Aside0 (FarSt w A0 l.length c0 B w1.heap.size ba D' ag' W' ∧ Marks w.heap.size ds' W' ∧ FarOk (ups l) (names l) tg D' ∧ 2 * pot (names l).length D' + (if ag' then 1 else 0) + 1 < gk ∧ (ag' = false → ∀ c p, c ∈ names (l.take j) → p ∈ ups l c → Stab D' c p)) ∧ j ≤ l.length ∧ Aside0 (gj = l.length - j) ∧
        a' = { tmps := #[u0, u1, .pointer (some ⟨w.heap.size, 0, none⟩), u3, .map none, .pointer (some ⟨w1.heap.size, 0, none⟩), .pointer (some ⟨ba, 0, none⟩), u7, u8, u9, u10, u11, u12, u13, u14, u15, u16, u17, u18, .slice A0 l.length c0, .int .i64 l.length, .int .i64 j, u22, u23, u24, u25, u26, u27, u28, u29, u30, u31, u32, u33, u34, u35, u36, u37, u38, u39, u40, u41, u42, u43, u44, u45, u46, u47, u48, u49, u50, u51, u52, u53, u54, u55, u56, u57, u58, u59, u60, u61], defers := ds' }) l.length ?_ ?_
      · repeat apply Exists.intro
        exact ⟨⟨hS2, HREL.out.1, HREL.out.2.1, by have := HREL.out.2.2; simp at this ⊢; omega, by intro _ c p hc; simp [names] at hc⟩, Nat.zero_le _, ⟨rfl⟩, rfl⟩
      · rintro gj a' W' ⟨u0, u1, u3, u7, u8, u9, u10, u11, u12, u13, u14, u15, u16, u17, u18, u22, u23, u24, u25, u26, u27, u28, u29, u30, u31, u32, u33, u34, u35, u36, u37, u38, u39, u40, u41, u42, u43, u44, u45, u46, u47, u48, u49, u50, u51, u52, u53, u54, u55, u56, u57, u58, u59, u60, u61, ds', D', ag', j, hrel, hj, hgj, rfl⟩ J2 K2 hJ2 hK2
        have HJ2 := Lib.hid hJ2
        clear hJ2
        have hS := hrel.out.1
        by_cases hlt2 : j < l.length
        · obtain ⟨ad, A2, c2, A3, c3, A4, c4, A5, c5, A6, c6, ea, hx0, hx1, hx2, hx3, hx4, hx5, hx6, _⟩ := at_T61 (Kd.C_below HR.out hS.hB) (j : Int) (by omega) (by omega)
          subst ea
          rw [Int.toNat_natCast] at hx0 hx1 hx2 hx3 hx4 hx5 hx6
          have hg0 := hS.g0
          have hg1 := hS.g1
          have hl1 := hS.l1
          have hl2 := hS.l2
          have hl3 := hS.lt
          have hl0 : w.heap.size < W'.heap.size := by omega
          gi_wp2_with (gi_at_call 57; refine (callsIn_wide.2 (parents_calls _ _ _ _)).mono ?_; rintro e w2 ⟨rfl, rfl⟩)
          clear hg0 hg1 hx0 hx1 hx2 hx3 hx4 hx5 hx6
          have hBW := hS.hB
          have hsz := hBW.size
          have hS3 : FarSt w (some ad) l.length c0 B w1.heap.size ba D' ag' (((W'.alloc (.cells #[.string (rd_T61 l (j : Int)).f0, .bool (rd_T61 l (j : Int)).f1, .slice A2 (rd_T61 l (j : Int)).f2.length c2, .slice A3 (rd_T61 l (j : Int)).f3.length c3, .slice A4 (rd_T61 l (j : Int)).f4.length c4, .slice A5 (rd_T61 l (j : Int)).f5.length c5, .slice A6 (rd_T61 l (j : Int)).f6.length c6] 61)).alloc (.cells #[.slice (some ad) l.length c0, .map (some B)] 99)).alloc (.cells #[.string (rd_T61 l (j : Int)).f0] 9)) := ((hS.alloc _).alloc _).alloc _
          have hAt := AtRange.new (W := W'.alloc (.cells #[.string (rd_T61 l (j : Int)).f0, .bool (rd_T61 l (j : Int)).f1, .slice A2 (rd_T61 l (j : Int)).f2.length c2, .slice A3 (rd_T61 l (j : Int)).f3.length c3, .slice A4 (rd_T61 l (j : Int)).f4.length c4, .slice A5 (rd_T61 l (j : Int)).f5.length c5, .slice A6 (rd_T61 l (j : Int)).f6.length c6] 61)) (rd_T61 l (j : Int)).f0 HR.out hc HM.out (hBW.alloc hsz _) (HMB.out.below (hBW.alloc hsz (.cells #[.string (rd_T61 l (j : Int)).f0, .bool (rd_T61 l (j : Int)).f1, .slice A2 (rd_T61 l (j : Int)).f2.length c2, .slice A3 (rd_T61 l (j : Int)).f3.length c3, .slice A4 (rd_T61 l (j : Int)).f4.length c4, .slice A5 (rd_T61 l (j : Int)).f5.length c5, .slice A6 (rd_T61 l (j : Int)).f6.length c6] 61)) hBlt)
          rw [World.size_alloc] at hAt
          obtain ⟨WL, hWL⟩ : ∃ WL, (((W'.alloc (.cells #[.string (rd_T61 l (j : Int)).f0, .bool (rd_T61 l (j : Int)).f1, .slice A2 (rd_T61 l (j : Int)).f2.length c2, .slice A3 (rd_T61 l (j : Int)).f3.length c3, .slice A4 (rd_T61 l (j : Int)).f4.length c4, .slice A5 (rd_T61 l (j : Int)).f5.length c5, .slice A6 (rd_T61 l (j : Int)).f6.length c6] 61)).alloc (.cells #[.slice (some ad) l.length c0, .map (some B)] 99)).alloc (.cells #[.string (rd_T61 l (j : Int)).f0] 9)) = WL := ⟨_, rfl⟩
          have hWs : WL.heap.size = W'.heap.size + 1 + 1 + 1 := by rw [← hWL]; simp
          have hWc : WL.cell? ⟨W'.heap.size, 0, none⟩ = some (.string (rd_T61 l (j : Int)).f0) := by rw [← hWL]; exact cell_alloc (cell_alloc (cell_new _ _ _ _) _) _
          have hMkL : Marks w.heap.size ds' WL := by rw [← hWL]; exact ((hrel.out.2.1.alloc _).alloc _).alloc _
          rw [hWL] at hAt hS3 ⊢
          clear hWL
          refine rangeP hAt (by omega) rfl rfl
            (fun pre Wb => ∃ (D2 : List (ByteArray × Nat)) (ag2 : Bool), Aside0 (FarSt w (some ad) l.length c0 B w1.heap.size ba D2 ag2 Wb ∧ FarOk (ups l) (names l) tg D2 ∧ 2 * pot (names l).length D2 + (if ag2 then 1 else 0) + 1 < gk ∧ (ag2 = false → (∀ c p, c ∈ names (l.take j) → p ∈ ups l c → Stab D2 c p) ∧ ∀ p ∈ pre.map (·.1), Stab D2 (rd_T61 l (j : Int)).f0 p) ∧ Wb.cell? ⟨W'.heap.size, 0, none⟩ = some (.string (rd_T61 l (j : Int)).f0) ∧ DefKeep WL.heap.size WL Wb))
            (fun _ _ _ => False) ?_ (fun _ _ _ _ h _ => h) ?_
            (fun x => { tmps := #[u0, u1, .pointer (some ⟨w.heap.size, 0, none⟩), u3, .map none, .pointer (some ⟨w1.heap.size, 0, none⟩), .pointer (some ⟨ba, 0, none⟩), u7, .pointer (some ⟨W'.heap.size, 0, none⟩), .string x.1, u10, u11, u12, u13, u14, u15, u16, u17, u18, .slice (some ad) l.length c0, .int .i64 l.length, .int .i64 j, .bool true, .pointer (some (ad.add (j * 7))), .agg #[.string (rd_T61 l (j : Int)).f0, .bool (rd_T61 l (j : Int)).f1, .slice A2 (rd_T61 l (j : Int)).f2.length c2, .slice A3 (rd_T61 l (j : Int)).f3.length c3, .slice A4 (rd_T61 l (j : Int)).f4.length c4, .slice A5 (rd_T61 l (j : Int)).f5.length c5, .slice A6 (rd_T61 l (j : Int)).f6.length c6], .agg #[.slice (some ad) l.length c0, .map (some B)], .pointer (some ⟨W'.heap.size, 0, none⟩), .string (rd_T61 l (j : Int)).f0, .func (.func 98) #[] #[.pointer (some ⟨W'.heap.size + 1, 0, none⟩), .pointer (some ⟨W'.heap.size + 1 + 1, 0, none⟩)], .string x.1, u30, u31, u32, u33, u34, u35, u36, u37, u38, u39, u40, u41, u42, u43, u44, u45, u46, u47, u48, u49, u50, u51, u52, u53, u54, u55, u56, u57, u58, u59, u60, u61], defers := [] }) ?_ ?_ ?_ ?_
          · rintro pre Wb Wc ⟨D2, ag2, ⟨h1, h2, h3, h4, h5, h6⟩⟩ hb0
            have hb := hb0.below
            exact ⟨D2, ag2, ⟨h1.below hb (by omega), h2, h3, h4, (hb.cell (p := ⟨W'.heap.size, 0, none⟩) (by simp; omega)).trans h5, h6.below hb⟩⟩
          · exact ⟨D', ag', ⟨hS3, hrel.out.2.2.1, hrel.out.2.2.2.1, fun e => ⟨hrel.out.2.2.2.2 e, by simp⟩, hWc, DefKeep.refl _ _⟩⟩
          · intro L x Wb K' hK'
            gi_wp2_with fail
            exact hK'
          · rintro L pre x Wb hszb - ⟨D2, ag2, hI⟩
            have hSb := hI.out.1
            have ho := hSb.o
            have ha := hSb.a
            have hf := hSb.af
            have hcl := hI.out.2.2.2.2.1
            have hdk := hI.out.2.2.2.2.2
            have hlt3 := hSb.lt
            have hlk1 := hSb.M.look (P := Try.prog) Try.underlying69 Try.underlying9 (zero3 _) x.1 true
            have hlk2 := hSb.M.look (P := Try.prog) Try.underlying69 Try.underlying9 (zero3 _) (rd_T61 l (j : Int)).f0 true
            rw [mget_nums] at hlk1 hlk2
            have hmem := names_rd hlt2
            have hxm := x.2
            cases hp : mget D2 x.1 with
            | none =>
              simp only [hp, Option.map_none, Option.getD_none, Option.isSome_none, ↓reduceIte] at hlk1
              have HP := Lib.hid hp
              clear hp
              cases hv : mget D2 (rd_T61 l (j : Int)).f0 with
              | none =>
                simp only [hv, Option.map_none, Option.getD_none, Option.isSome_none, ↓reduceIte] at hlk2
                have HV := Lib.hid hv
                clear hv
                gi_wp2_with (refine wpListIn_skip rfl rfl ?_)
                exact ⟨KeepsFrom.refl _ _, Keeps.refl _ _, D2, ag2, ⟨hSb, hI.out.2.1, hI.out.2.2.1, fun e => ⟨(hI.out.2.2.2.1 e).1, stab_snoc (hI.out.2.2.2.1 e).2 (by unfold Stab better; rw [HP.out])⟩, hcl, hdk⟩⟩
              | some v =>
                simp only [hv, Option.map_some, Option.getD_some, Option.isSome_some, ↓reduceIte] at hlk2
                have HV := Lib.hid hv
                clear hv
                gi_wp2_with (refine wpListIn_skip rfl rfl ?_)
                exact ⟨KeepsFrom.refl _ _, Keeps.refl _ _, D2, ag2, ⟨hSb, hI.out.2.1, hI.out.2.2.1, fun e => ⟨(hI.out.2.2.2.1 e).1, stab_snoc (hI.out.2.2.2.1 e).2 (by unfold Stab better; rw [HP.out])⟩, hcl, hdk⟩⟩
            | some n =>
              have hn := hI.out.2.1.bnd _ _ hp
              have hlenD := hI.out.2.1.len
              have hnl : (names l).length = l.length := by simp [names]
              rw [hnl] at hlenD
              clear hnl
              simp only [hp, Option.map_some, Option.getD_some, Option.isSome_some, ↓reduceIte] at hlk1
              have HP := Lib.hid hp
              clear hp
              cases hv : mget D2 (rd_T61 l (j : Int)).f0 with
              | none =>
                simp only [hv, Option.map_none, Option.getD_none, Option.isSome_none, ↓reduceIte] at hlk2
                have hbt : Hid (better D2 (rd_T61 l (j : Int)).f0 x.1 = true) := by show better _ _ _ = true; unfold better; rw [HP.out, hv]
                clear hv
                have hrl : Hid (relax D2 (rd_T61 l (j : Int)).f0 x.1 = mput D2 (rd_T61 l (j : Int)).f0 (n + 1)) := by show relax _ _ _ = _; unfold relax; rw [hbt.out, HP.out]; rfl
                gi_wp2_with (first | (refine wpListIn_skip rfl rfl ?_) | (gi_at_mapUpdate; refine wpListIn_store _ rfl _ _ _ 69 rfl 9 3 Try.underlying69 Try.underlying9 (w.heap.size + 1) (nums D2) rfl hSb.M _ _ rfl rfl ?_; intro w2 hM2 hG2; have hS5 := hSb.stored (D' := relax D2 (rd_T61 l (j : Int)).f0 x.1) hG2 (by rw [hrl.out, ← mput_nums, show ((n + 1 : Nat) : Int) = (n : Int) + 1 from by omega]; exact hM2); have ha2 := hS5.a; have hf2 := hS5.af; have hcl2 := hG2.cell hcl (by simp; omega); clear hlk1 hlk2 hM2 ho ha hf))
                exact ⟨KeepsFrom.setCell (KeepsFrom.grown (KeepsFrom.refl _ _) hG2 (fun j e => by cases e; omega)) _ _, ((Keeps.refl _ _).grown hG2 (fun k hk => by have := hAt.klt k hk; omega) (fun k e hk => by cases e; omega)).setCell (by dsimp only; omega) _, _, true,
                  ⟨hS5.again true, hI.out.2.1.relax hmem hxm, by have h1 := pot_relax hI.out.2.1 hmem hxm hbt.out; have h2 := hI.out.2.2.1; simp only [if_true]; omega, fun e => (by cases e), (cell_set_ne (a := ⟨ba, 0, none⟩) _ (by dsimp only; omega)).trans hcl2, (hdk.grown hG2 (fun k e => by cases e; exact hSb.M.noDef)).setCell _ _⟩⟩
              | some v =>
                simp only [hv, Option.map_some, Option.getD_some, Option.isSome_some, ↓reduceIte] at hlk2
                have hvb := hI.out.2.1.bnd _ _ hv
                by_cases hnv : n + 1 < v
                · have hbt : Hid (better D2 (rd_T61 l (j : Int)).f0 x.1 = true) := by show better _ _ _ = true; unfold better; rw [HP.out, hv]; simpa using hnv
                  clear hv
                  have hrl : Hid (relax D2 (rd_T61 l (j : Int)).f0 x.1 = mput D2 (rd_T61 l (j : Int)).f0 (n + 1)) := by show relax _ _ _ = _; unfold relax; rw [hbt.out, HP.out]; rfl
                  gi_wp2_with (first | (refine wpListIn_skip rfl rfl ?_) | (gi_at_mapUpdate; refine wpListIn_store _ rfl _ _ _ 69 rfl 9 3 Try.underlying69 Try.underlying9 (w.heap.size + 1) (nums D2) rfl hSb.M _ _ rfl rfl ?_; intro w2 hM2 hG2; have hS5 := hSb.stored (D' := relax D2 (rd_T61 l (j : Int)).f0 x.1) hG2 (by rw [hrl.out, ← mput_nums, show ((n + 1 : Nat) : Int) = (n : Int) + 1 from by omega]; exact hM2); have ha2 := hS5.a; have hf2 := hS5.af; have hcl2 := hG2.cell hcl (by simp; omega); clear hlk1 hlk2 hM2 ho ha hf))
                  exact ⟨KeepsFrom.setCell (KeepsFrom.grown (KeepsFrom.refl _ _) hG2 (fun j e => by cases e; omega)) _ _, ((Keeps.refl _ _).grown hG2 (fun k hk => by have := hAt.klt k hk; omega) (fun k e hk => by cases e; omega)).setCell (by dsimp only; omega) _, _, true,
                    ⟨hS5.again true, hI.out.2.1.relax hmem hxm, by have h1 := pot_relax hI.out.2.1 hmem hxm hbt.out; have h2 := hI.out.2.2.1; simp only [if_true]; omega, fun e => (by cases e), (cell_set_ne (a := ⟨ba, 0, none⟩) _ (by dsimp only; omega)).trans hcl2, (hdk.grown hG2 (fun k e => by cases e; exact hSb.M.noDef)).setCell _ _⟩⟩
                · have hst : Hid (Stab D2 (rd_T61 l (j : Int)).f0 x.1) := by show better _ _ _ = false; unfold better; rw [HP.out, hv]; simpa using hnv
                  clear hv
                  gi_wp2_with (refine wpListIn_skip rfl rfl ?_)
                  exact ⟨KeepsFrom.refl _ _, Keeps.refl _ _, D2, ag2, ⟨hSb, hI.out.2.1, hI.out.2.2.1, fun e => ⟨(hI.out.2.2.2.1 e).1, stab_snoc (hI.out.2.2.2.1 e).2 hst.out⟩, hcl, hdk⟩⟩
          · intro D1 xs Wb hD1 hxs ⟨D2, ag2, hI⟩ hdef
            gi_wp2_with fail
            refine Handed.intro (l.length - (j + 1)) (by have := hgj.out; omega) (HJ2.out _ _ _ ⟨_, _, _, _, _, _, _, _, _, _, _, _, _, _, _, _, _, _, _, _, _, _, _, _, _, _, _, _, _, _, _, _, _, _, _, _, _, _, _, _, _, _, _, _, _, _, _, _, _, _, _, _, _, _, _, _, D2, ag2, j + 1, ⟨hI.out.1, Marks.cons hMkL hD1 (by omega) hdef (hMkL.defk hI.out.2.2.2.2.2), hI.out.2.1, hI.out.2.2.1, ?_⟩, by omega, ⟨rfl⟩, rfl⟩)
            intro e c p hc hp
            rw [take_rd l j hlt2] at hc
            simp only [names, List.map_append, List.mem_append, List.map_cons, List.map_nil, List.mem_singleton] at hc
            rcases hc with hc | hc
            · exact (hI.out.2.2.2.1 e).1 c p hc hp
            · subst hc
              exact (hI.out.2.2.2.1 e).2 p (by rw [hxs]; exact hp)
          · intro D1 cd pre Wb _ _ h _
            exact h.elim
        · have ha := hS.a
          have hl1 := hS.l1
          have hl2 := hS.l2
          have hl3 := hS.lt
          gi_wp2_with fail
          obtain rfl : j = l.length := by omega
          refine Handed.intro (2 * pot (names l).length D' + (if ag' then 1 else 0) + 1) hrel.out.2.2.2.1 (HJ.out _ _ _ ⟨_, _, _, _, _, _, _, _, _, _, _, _, _, _, _, _, _, _, _, _, _, _, _, _, _, _, _, _, _, _, _, _, _, _, _, _, _, _, _, _, _, _, _, _, _, _, _, _, _, _, _, _, _, _, _, _, _, _, ds', D', W'.heap.size, ag', ⟨hS.fresh, hrel.out.2.1.alloc _, hrel.out.2.2.1, by omega, ?_⟩, rfl⟩)
          have := hrel.out.2.2.2.2
          rwa [List.take_length] at this
end Go.Proofs.Ytdljclokenoogaa.Hw
end
section
namespace Go.Proofs.Ytdljclokenoogaa.Hw
def wayD (up : ByteArray → List ByteArray) (D : List (ByteArray × Nat)) : Nat → ByteArray → List ByteArray
  | 0, c => [c]
  | n + 1, c => c :: wayD up D n (Lib.minOfS ((up c).filter (fun p => decide (mget D p = some (n + 1)))))
def shortD (up : ByteArray → List ByteArray) (D : List (ByteArray × Nat)) (c : ByteArray) : List ByteArray :=
  match mget D c with
  | none => []
  | some d => wayD up D (d - 1) c
theorem wayD_head (up : ByteArray → List ByteArray) (D : List (ByteArray × Nat)) (n : Nat) (c : ByteArray) : wayD up D n c = c :: (wayD up D n c).tail := by
  cases n <;> rfl
theorem minS_or (x y : ByteArray) : Lib.minS x y = x ∨ Lib.minS x y = y := by
  unfold Lib.minS; split <;> simp
theorem minOfS_mem : ∀ (l : List ByteArray), l ≠ [] → Lib.minOfS l ∈ l := by
  have key : ∀ (l : List ByteArray) (x : ByteArray), l.foldl Lib.minS x = x ∨ l.foldl Lib.minS x ∈ l := by
    intro l
    induction l with
    | nil => intro x; exact .inl rfl
    | cons y l ih =>
      intro x
      simp only [List.foldl_cons]
      rcases ih (Lib.minS x y) with h | h
      · rw [h]
        rcases minS_or x y with h' | h'
        · exact .inl h'
        · exact .inr (by rw [h']; simp)
      · exact .inr (by simp [h])
  intro l hl
  cases l with
  | nil => exact absurd rfl hl
  | cons x l =>
    simp only [Lib.minOfS, List.headD_cons]
    rcases key (x :: l) x with h | h
    · rw [h]; simp
    · exact h
theorem IsFar.pos {up : ByteArray → List ByteArray} {to_ : ByteArray} {D : List (ByteArray × Nat)} (h : IsFar up to_ D) {k : ByteArray} {d : Nat} (hd : mget D k = some d) : 1 ≤ d := (h.snd k d hd).1
theorem IsFar.next {up : ByteArray → List ByteArray} {to_ : ByteArray} {D : List (ByteArray × Nat)} (h : IsFar up to_ D) {c : ByteArray} {n : Nat} (hd : mget D c = some (n + 2)) :
    (up c).filter (fun p => decide (mget D p = some (n + 1))) ≠ [] := by
  obtain ⟨_, p, hp, hr⟩ := h.snd c _ hd
  obtain ⟨d, hd', hle⟩ := h.min n p hr
  have hge : n + 1 ≤ d := by
    rcases Nat.lt_or_ge d (n + 1) with hlt | hge
    · exfalso
      have h1 := (h.snd p d hd')
      obtain ⟨d2, h2, h3⟩ := h.min (d - 1 + 1) c ⟨p, hp, h1.2⟩
      rw [hd] at h2; cases h2; omega
    · exact hge
  obtain rfl : d = n + 1 := by omega
  intro e
  have : p ∈ (up c).filter (fun p => decide (mget D p = some (n + 1))) := by simp [hp, hd']
  rw [e] at this; cases this
theorem IsFar.one {up : ByteArray → List ByteArray} {to_ : ByteArray} {D : List (ByteArray × Nat)} (h : IsFar up to_ D) : mget D to_ = some 1 := by
  obtain ⟨d, h1, h2⟩ := h.min 0 to_ rfl
  have := h.pos h1
  rw [h1]; congr; omega
theorem IsFar.zero {up : ByteArray → List ByteArray} {to_ c : ByteArray} {D : List (ByteArray × Nat)} (h : IsFar up to_ D) (hd : mget D c = some 1) : c = to_ := (h.snd c 1 hd).2
def reachB (up : ByteArray → List ByteArray) : Nat → ByteArray → ByteArray → Bool
  | 0, c, a => decide (c = a)
  | n + 1, c, a => (up c).any (fun p => reachB up n p a)
theorem reachB_iff (up : ByteArray → List ByteArray) : ∀ (n : Nat) (c a : ByteArray), reachB up n c a = true ↔ reach up n c a
  | 0, c, a => by simp [reachB, reach]
  | n + 1, c, a => by simp [reachB, reach, reachB_iff up n]
def distF (up : ByteArray → List ByteArray) (N : Nat) (c a : ByteArray) : Option Nat := (List.range (N + 1)).find? (fun n => reachB up n c a)
theorem distF_some {up : ByteArray → List ByteArray} {N : Nat} {c a : ByteArray} {n : Nat} : distF up N c a = some n ↔ n ≤ N ∧ reach up n c a ∧ ∀ j, j < n → ¬ reach up j c a := by
  unfold distF
  rw [List.find?_range_eq_some]
  simp only [reachB_iff, Bool.not_eq_true', List.mem_range]
  constructor
  · rintro ⟨h1, h2, h3⟩
    exact ⟨by omega, h1, fun j hj hr => by have := h3 j hj; rw [(reachB_iff up j c a).2 hr] at this; cases this⟩
  · rintro ⟨h1, h2, h3⟩
    refine ⟨h2, by omega, fun j hj => ?_⟩
    cases hb : reachB up j c a with
    | false => rfl
    | true => exact absurd ((reachB_iff up j c a).1 hb) (h3 j hj)
theorem distF_none {up : ByteArray → List ByteArray} {N : Nat} {c a : ByteArray} : distF up N c a = none ↔ ∀ n, n ≤ N → ¬ reach up n c a := by
  unfold distF
  rw [List.find?_eq_none]
  simp only [List.mem_range, reachB_iff]
  exact ⟨fun h n hn => h n (by omega), fun h n hn => h n (by omega)⟩
theorem IsFar.dist {up : ByteArray → List ByteArray} {tg : ByteArray} {D : List (ByteArray × Nat)} {N : Nat} (h : IsFar up tg D) (hN : ∀ k d, mget D k = some d → d ≤ N + 1) (k : ByteArray) : mget D k = (distF up N k tg).map (· + 1) := by
  cases hd : mget D k with
  | none =>
    have : distF up N k tg = none := distF_none.2 (fun n _ hr => by obtain ⟨d, h1, _⟩ := h.min n k hr; rw [hd] at h1; cases h1)
    rw [this]; rfl
  | some d =>
    obtain ⟨h1, h2⟩ := h.snd k d hd
    have : distF up N k tg = some (d - 1) := distF_some.2 ⟨by have := hN k d hd; omega, h2, fun j hj hr => by obtain ⟨d', h3, h4⟩ := h.min j k hr; rw [hd] at h3; cases h3; omega⟩
    rw [this]; simp; omega
def wayF (up : ByteArray → List ByteArray) (N : Nat) (a : ByteArray) : Nat → ByteArray → List ByteArray
  | 0, c => [c]
  | n + 1, c => c :: wayF up N a n (Lib.minOfS ((up c).filter (fun p => decide (distF up N p a = some n))))
def shortF (up : ByteArray → List ByteArray) (N : Nat) (a c : ByteArray) : List ByteArray :=
  match distF up N c a with
  | none => []
  | some n => wayF up N a n c
theorem wayF_len (up : ByteArray → List ByteArray) (N : Nat) (a : ByteArray) : ∀ (n : Nat) (c : ByteArray), (wayF up N a n c).length = n + 1
  | 0, _ => rfl
  | n + 1, c => by simp [wayF, wayF_len up N a n]
theorem shortF_len (up : ByteArray → List ByteArray) (N : Nat) (a c : ByteArray) : (shortF up N a c).length ≤ N + 1 := by
  unfold shortF
  cases h : distF up N c a with
  | none => simp
  | some n => simp only [wayF_len]; have := (distF_some.1 h).1; omega
theorem wayD_eq {up : ByteArray → List ByteArray} {tg : ByteArray} {D : List (ByteArray × Nat)} {N : Nat} (h : IsFar up tg D) (hN : ∀ k d, mget D k = some d → d ≤ N + 1) : ∀ (n : Nat) (c : ByteArray), wayD up D n c = wayF up N tg n c
  | 0, c => rfl
  | n + 1, c => by
    have e : (up c).filter (fun p => decide (mget D p = some (n + 1))) = (up c).filter (fun p => decide (distF up N p tg = some n)) := by
      refine List.filter_congr (fun p _ => ?_)
      rw [h.dist hN p]
      cases distF up N p tg <;> simp
    simp only [wayD, wayF, e, wayD_eq h hN n]
theorem shortD_eq {up : ByteArray → List ByteArray} {tg : ByteArray} {D : List (ByteArray × Nat)} {N : Nat} (h : IsFar up tg D) (hN : ∀ k d, mget D k = some d → d ≤ N + 1) (c : ByteArray) : shortD up D c = shortF up N tg c := by
  unfold shortD shortF
  rw [h.dist hN c]
  cases distF up N c tg with
  | none => rfl
  | some n => exact wayD_eq h hN n c
end Go.Proofs.Ytdljclokenoogaa.Hw
end
section
namespace Go.Proofs.Ytdljclokenoogaa.Hw
open Go.RowKit Go.Proofs.Ytdljclokenoogaa.Hp Go.Proofs.YtdljclokenoogaaW.PrintWords Go.Proofs.YtdljclokenoogaaW.PrintLast Go.Proofs.YtdljclokenoogaaW.PrintMore
attribute [local go_sem] Oper.semAt_some
def nth (xs : List ByteArray) (k : Nat) : ByteArray := xs.getD k ByteArray.empty
theorem toList_beq (a b : ByteArray) : (a.toList == b.toList) = decide (a = b) := by
  rw [Bool.eq_iff_iff, beq_iff_eq, decide_eq_true_iff]
  constructor
  · intro h
    rw [Lib.toList_data, Lib.toList_data] at h
    exact ByteArray.ext (Array.toList_inj.1 h)
  · rintro rfl; rfl
theorem at_s {w : World} {A : Option Addr} {n : Nat} {xs : List ByteArray} (h : Kd.string.C w A n xs) (k : Nat) (hk : k < n) : ∃ ad, A = some ad ∧ w.cell? (ad.add k) = some (.string (nth xs k)) := by
  obtain ⟨ad, c, e, _, hK, hc⟩ := Kd.C_get h ByteArray.empty (k : Int) (by omega) (by omega)
  obtain rfl := hK
  refine ⟨ad, e, ?_⟩
  have := hc 0 _ rfl
  have e1 : (Kd.string.sz) = 1 := rfl
  rw [e1] at this
  simpa [nth] using this
def idxS (xs : List ByteArray) (a : ByteArray) : Int :=
  match xs.findIdx? (fun x => decide (a = x)) with
  | some i => i
  | none => -1
def memS (xs : List ByteArray) (a : ByteArray) : Bool := xs.any (fun x => decide (a = x))
theorem idxS_nonneg (xs : List ByteArray) (a : ByteArray) : decide (0 ≤ idxS xs a) = memS xs a := by
  unfold idxS memS
  cases h : xs.findIdx? (fun x => decide (a = x)) with
  | none =>
    have := List.findIdx?_eq_none_iff.1 h
    simp only [decide_eq_false_iff_not] at this
    rw [Bool.eq_iff_iff]
    simp
    intro hm
    exact this a hm rfl
  | some i =>
    have := List.findIdx?_isSome (xs := xs) (p := fun x => decide (a = x))
    rw [h] at this
    simp only [Option.isSome_some] at this
    rw [← this]
    simp
theorem idxS_found {xs : List ByteArray} {a : ByteArray} {k : Nat} (hk : k < xs.length) (hn : ∀ j, j < k → a ≠ nth xs j) (h : a = nth xs k) : idxS xs a = k := by
  unfold idxS
  have : xs.findIdx? (fun x => decide (a = x)) = some k := by
    rw [List.findIdx?_eq_some_iff_getElem]
    refine ⟨hk, by simpa [nth, List.getD_eq_getElem?_getD, hk] using h, fun j hj => ?_⟩
    have := hn j hj
    simpa [nth, List.getD_eq_getElem?_getD, Nat.lt_trans hj hk] using this
  rw [this]
theorem idxS_none {xs : List ByteArray} {a : ByteArray} (hn : ∀ j, j < xs.length → a ≠ nth xs j) : idxS xs a = -1 := by
  unfold idxS
  have : xs.findIdx? (fun x => decide (a = x)) = none := by
    rw [List.findIdx?_eq_none_iff]
    intro x hx
    obtain ⟨j, hj, rfl⟩ := List.mem_iff_getElem.1 hx
    have := hn j hj
    simpa [nth, List.getD_eq_getElem?_getD, hj] using this
  rw [this]
set_option maxRecDepth 100000 in
set_option maxHeartbeats 1000000 in
theorem index_calls (A0 : Option Addr) (c0 : Nat) (xs : List ByteArray) (a : ByteArray) (w : World) (hr : Kd.string.C w A0 xs.length xs) :
    Calls Try.prog 103 #[.slice A0 xs.length c0, .string a] w fun e w' => e = .returned (.int .i64 (idxS xs a)) ∧ w = w' := by
  refine (callsIn_wide (n := 20)).1 ?_
  refine callsIn_of_wp Try.func103 rfl trivial ?_
  simp only [Try.ntmps103, List.size_toArray, List.length_cons, List.length_nil, Nat.reduceAdd, Nat.reduceSub, Array.replicate_succ, Array.replicate_zero, List.push_toArray, List.append_toArray, List.nil_append, List.cons_append]
  have hmax := Kd.C_max hr
  have HR := Lib.hid hr
  clear hr
  gi_wp2_with fail
  gi_loopw [8] (fun i wr => ∃ (k : Nat), k ≤ xs.length ∧ i = .int .i64 k ∧ Aside0 (∀ j, j < k → a ≠ nth xs j) ∧ Aside0 (w = wr)) (fun i _ => xs.length - (intOf i).toNat)
  case atStart => exact ⟨0, Nat.zero_le _, rfl, ⟨by simp⟩, ⟨rfl⟩⟩
  case round =>
    obtain ⟨k, hk, rfl, hn, ⟨rfl⟩⟩ := hrel
    by_cases hlt : k < xs.length
    · obtain ⟨ad, ea, hx⟩ := at_s HR.out k hlt
      subst ea
      by_cases he : a = nth xs k
      · have hb : (a.toList == (nth xs k).toList) = true := by rw [toList_beq]; simpa using he
        have HE := Lib.hid he
        clear he
        gi_wp2_with fail
        go_ret
        exact ⟨by rw [idxS_found hlt hn.out HE.out]; rfl, rfl⟩
      · have hb : (a.toList == (nth xs k).toList) = false := by rw [toList_beq]; simpa using he
        have HE := Lib.hid he
        clear he
        gi_wp2_with fail
        go_roundw
        case rel => exact ⟨k + 1, by omega, by go_num, ⟨fun j hj => (Nat.lt_succ_iff_lt_or_eq.1 hj).elim (hn.out j) (fun h => h ▸ HE.out)⟩, ⟨by first | rfl | trivial⟩⟩
        case measure => simp [intOf]; omega
    · gi_wp2_with fail
      go_ret
      obtain rfl : k = xs.length := by omega
      exact ⟨by rw [idxS_none hn.out]; rfl, rfl⟩
set_option maxRecDepth 100000 in
theorem contains_calls (A0 : Option Addr) (c0 : Nat) (xs : List ByteArray) (a : ByteArray) (w : World) (hr : Kd.string.C w A0 xs.length xs) :
    Calls Try.prog 79 #[.slice A0 xs.length c0, .string a] w fun e w' => e = .returned (.bool (memS xs a)) ∧ w = w' := by
  refine (callsIn_wide (n := 20)).1 ?_
  refine callsIn_of_wp Try.func79 rfl trivial ?_
  simp only [Try.ntmps79, List.size_toArray, List.length_cons, List.length_nil, Nat.reduceAdd, Nat.reduceSub, Array.replicate_succ, Array.replicate_zero, List.push_toArray, List.append_toArray, List.nil_append, List.cons_append]
  gi_wp2_with (gi_at_call 103; refine (callsIn_wide.2 (index_calls _ _ _ _ _ hr)).mono ?_; rintro e w1 ⟨rfl, rfl⟩)
  go_ret
  exact ⟨by rw [← idxS_nonneg]; rfl, rfl⟩
structure Pred (w : World) (fn : Nat) (cap : Array Value) (xs : List ByteArray) (p : ByteArray → Bool) : Prop where
  enter : ∀ args W, (callFunc fn args).run Try.prog W = .ok (.enter fn args) W
  call : ∀ x ∈ xs, ∀ W, Below w.heap.size w W → Calls Try.prog fn (#[.string x] ++ cap) W fun e W' => e = .returned (.bool (p x)) ∧ Below W.heap.size W W'
def idxF (xs : List ByteArray) (p : ByteArray → Bool) : Int :=
  match xs.findIdx? p with
  | some i => i
  | none => -1
theorem idxF_nonneg (xs : List ByteArray) (p : ByteArray → Bool) : decide (0 ≤ idxF xs p) = xs.any p := by
  unfold idxF
  cases h : xs.findIdx? p with
  | none =>
    have := List.findIdx?_eq_none_iff.1 h
    rw [Bool.eq_iff_iff]
    simp
    intro x hm
    exact this x hm
  | some i =>
    have := List.findIdx?_isSome (xs := xs) (p := p)
    rw [h] at this
    simp only [Option.isSome_some] at this
    rw [← this]
    simp
theorem idxF_found {xs : List ByteArray} {p : ByteArray → Bool} {k : Nat} (hk : k < xs.length) (hn : ∀ j, j < k → p (nth xs j) = false) (h : p (nth xs k) = true) : idxF xs p = k := by
  unfold idxF
  have : xs.findIdx? p = some k := by
    rw [List.findIdx?_eq_some_iff_getElem]
    refine ⟨hk, by simpa [nth, List.getD_eq_getElem?_getD, hk] using h, fun j hj => ?_⟩
    have := hn j hj
    simpa [nth, List.getD_eq_getElem?_getD, Nat.lt_trans hj hk] using this
  rw [this]
theorem idxF_none {xs : List ByteArray} {p : ByteArray → Bool} (hn : ∀ j, j < xs.length → p (nth xs j) = false) : idxF xs p = -1 := by
  unfold idxF
  have : xs.findIdx? p = none := by
    rw [List.findIdx?_eq_none_iff]
    intro x hx
    obtain ⟨j, hj, rfl⟩ := List.mem_iff_getElem.1 hx
    have := hn j hj
    simpa [nth, List.getD_eq_getElem?_getD, hj] using this
  rw [this]
theorem getD_mem {xs : List ByteArray} {k : Nat} (h : k < xs.length) : nth xs k ∈ xs := by
  rw [nth, List.getD_eq_getElem?_getD, List.getElem?_eq_getElem h]; exact List.getElem_mem _
set_option maxRecDepth 100000 in
set_option maxHeartbeats 1000000 in
theorem indexFunc_calls (A0 : Option Addr) (c0 : Nat) (xs : List ByteArray) (fn : Nat) (cap : Array Value) (p : ByteArray → Bool) (w : World) (hr : Kd.string.C w A0 xs.length xs) (hp : Pred w fn cap xs p) :
    Calls Try.prog 102 #[.slice A0 xs.length c0, .func (.func fn) #[] cap] w fun e w' => e = .returned (.int .i64 (idxF xs p)) ∧ Below w.heap.size w w' := by
  refine (callsIn_wide (n := 20)).1 ?_
  refine callsIn_of_wp Try.func102 rfl trivial ?_
  simp only [Try.ntmps102, List.size_toArray, List.length_cons, List.length_nil, Nat.reduceAdd, Nat.reduceSub, Array.replicate_succ, Array.replicate_zero, List.push_toArray, List.append_toArray, List.nil_append, List.cons_append]
  have hmax := Kd.C_max hr
  have HR := Lib.hid hr
  have HP := Lib.hid hp
  clear hr hp
  gi_wp2_with fail
  gi_loopw [8] (fun i wr => ∃ (k : Nat), k ≤ xs.length ∧ i = .int .i64 k ∧ Aside0 (∀ j, j < k → p (nth xs j) = false) ∧ Below w.heap.size w wr) (fun i _ => xs.length - (intOf i).toNat)
  case atStart => exact ⟨0, Nat.zero_le _, rfl, ⟨by simp⟩, Below.refl _ _⟩
  case round =>
    obtain ⟨k, hk, rfl, hn, hB⟩ := hrel
    by_cases hlt : k < xs.length
    · obtain ⟨ad, ea, hx⟩ := at_s (Kd.C_below HR.out hB) k hlt
      subst ea
      have hen := HP.out.enter
      gi_wp2_with fail
      refine (callsIn_wide.2 (HP.out.call _ (getD_mem hlt) wr hB)).mono ?_
      rintro e w1 ⟨rfl, hb1⟩
      cases he : p (nth xs k) with
      | true =>
        have HE := Lib.hid he
        clear he
        gi_wp2_with fail
        go_ret
        exact ⟨by rw [idxF_found hlt hn.out HE.out]; rfl, hB.trans (hb1.mono hB.size)⟩
      | false =>
        have HE := Lib.hid he
        clear he
        gi_wp2_with fail
        go_roundw
        case rel => exact ⟨k + 1, by omega, by go_num, ⟨fun j hj => (Nat.lt_succ_iff_lt_or_eq.1 hj).elim (hn.out j) (fun h => h ▸ HE.out)⟩, hB.trans (hb1.mono hB.size)⟩
        case measure => simp [intOf]; omega
    · gi_wp2_with fail
      go_ret
      obtain rfl : k = xs.length := by omega
      exact ⟨by rw [idxF_none hn.out]; rfl, hB⟩
set_option maxRecDepth 100000 in
theorem containsFunc_calls (A0 : Option Addr) (c0 : Nat) (xs : List ByteArray) (fn : Nat) (cap : Array Value) (p : ByteArray → Bool) (w : World) (hr : Kd.string.C w A0 xs.length xs) (hp : Pred w fn cap xs p) :
    Calls Try.prog 72 #[.slice A0 xs.length c0, .func (.func fn) #[] cap] w fun e w' => e = .returned (.bool (xs.any p)) ∧ Below w.heap.size w w' := by
  refine (callsIn_wide (n := 20)).1 ?_
  refine callsIn_of_wp Try.func72 rfl trivial ?_
  simp only [Try.ntmps72, List.size_toArray, List.length_cons, List.length_nil, Nat.reduceAdd, Nat.reduceSub, Array.replicate_succ, Array.replicate_zero, List.push_toArray, List.append_toArray, List.nil_append, List.cons_append]
  have HR := Lib.hid hr
  have HP := Lib.hid hp
  clear hr hp
  gi_wp2_with (gi_at_call 102; refine (callsIn_wide.2 (indexFunc_calls _ _ _ _ _ _ _ HR.out HP.out)).mono ?_; rintro e w1 ⟨rfl, hb1⟩)
  go_ret
  exact ⟨by rw [← idxF_nonneg]; rfl, hb1⟩
set_option maxRecDepth 100000 in
set_option maxHeartbeats 1000000 in
theorem min_calls (A0 : Option Addr) (c0 : Nat) (xs : List ByteArray) (w : World) (hr : Kd.string.C w A0 xs.length xs) (hpos : 0 < xs.length) :
    Calls Try.prog 58 #[.slice A0 xs.length c0] w fun e w' => e = .returned (.string (Lib.minOfS xs)) ∧ w = w' := by
  refine (callsIn_wide (n := 20)).1 ?_
  refine callsIn_of_wp Try.func58 rfl trivial ?_
  simp only [Try.ntmps58, List.size_toArray, List.length_cons, List.length_nil, Nat.reduceAdd, Nat.reduceSub, Array.replicate_succ, Array.replicate_zero, List.push_toArray, List.append_toArray, List.nil_append, List.cons_append]
  have hmax := Kd.C_max hr
  obtain ⟨ad, ea, hx0⟩ := at_s hr 0 hpos
  subst ea
  have HR := Lib.hid hr
  clear hr
  have ha0 : ad.add 0 = ad := rfl
  rw [ha0] at hx0
  clear ha0
  gi_wp2_with fail
  gi_loopw [3, 4] (fun q i wr => ∃ (k : Nat), 1 ≤ k ∧ k ≤ xs.length ∧ i = .int .i64 k ∧ q = .string (Lib.minOfS (xs.take k)) ∧ Aside0 (w = wr)) (fun _ i _ => xs.length - (intOf i).toNat)
  case atStart => exact ⟨1, Nat.le_refl _, hpos, rfl, by rw [Lib.minOfS_one]; rfl, ⟨rfl⟩⟩
  case round =>
    obtain ⟨k, hk1, hk, rfl, rfl, ⟨rfl⟩⟩ := hrel
    clear hx0
    by_cases hlt : k < xs.length
    · obtain ⟨ad', ea, hx⟩ := at_s HR.out k hlt
      cases ea
      have hmin := fun ts t => Lib.run_min_strs (P := Try.prog) w ts t (Lib.minOfS (xs.take k)) (nth xs k)
      have hst := Lib.minOfS_step xs k (by omega) hlt
      have HS := Lib.hid hst
      clear hst
      gi_wp2_with fail
      go_roundw
      case rel => exact ⟨k + 1, by omega, by omega, by go_num, by rw [HS.out]; rfl, ⟨by first | rfl | trivial⟩⟩
      case measure => simp [intOf]; omega
    · gi_wp2_with fail
      go_ret
      obtain rfl : k = xs.length := by omega
      exact ⟨by rw [List.take_length]; rfl, rfl⟩
end Go.Proofs.Ytdljclokenoogaa.Hw
end
section
namespace Go.Proofs.Ytdljclokenoogaa.Hw
open Go.RowKit Go.Proofs.Ytdljclokenoogaa.Hp Go.Proofs.YtdljclokenoogaaW.PrintWords Go.Proofs.YtdljclokenoogaaW.PrintLast Go.Proofs.YtdljclokenoogaaW.PrintMore
attribute [local go_sem] Oper.semAt_some
section
variable {F : Fence} {nF : Nat} {P : Program} {ops : Array Oper} {rest : List Oper} {o : Oper} {a : Act} {Q : Exit → Act → World → Prop} {α : Type}
theorem R_push (d : Kd α) {W : World} (base : Nat) (hgd : o.guard = none) (s x : Operand) (t e : TypeId) (z : Value) (bytes : Nat)
    (ho : o.op = .call { callee := .builtin .append, args := #[s, x], argTypes := #[t, t] })
    (ht : P.underlying t = some (.slice e)) (hinfo : (P.info? e).map (fun i => (i.zero, i.size, i.bytes)) = some (some z, d.sz, bytes)) (hz : z.cells.size = d.sz) (hs0 : 0 < d.sz) (hb0 : 0 < bytes)
    (v : Value) (xs : List α) (p : α) (cs : List Value) (ok okp : Nat → Prop) (hs : a.eval s = v) (hx : a.eval x = .slice (some ⟨W.heap.size, 0, none⟩) 1 1) (hp : d.M W base okp p cs) (hokp : ∀ k, okp k → ok k ∧ some k ≠ v.ownBlock) (hfresh : ∀ k, W.heap.size ≤ k → ok k)
    (HO : d.R e W base ok v xs) (hbase : base ≤ W.heap.size) (hl : (xs.length + 1) * bytes ≤ 140737488355328)
    (h : ∀ v1 w1, d.R e w1 base ok v1 (xs ++ [p]) → W.grownBy w1 v.ownBlock → (v1.ownBlock = v.ownBlock ∨ ∃ b, v1.ownBlock = some b ∧ W.heap.size ≤ b) → wpListIn F nF P ops Q rest (a.put o.dst v1) w1) :
    wpListIn F nF P ops Q (o :: rest) a (W.alloc (.cells cs.toArray e)) := by
  obtain ⟨h0, inner, hown, hr⟩ := HO
  obtain ⟨i0, hi, hzz⟩ := Option.map_eq_some_iff.1 hinfo
  simp only [Prod.mk.injEq] at hzz
  obtain ⟨hz0, hz1, hz2⟩ := hzz
  have hcl : cs.length = d.sz := d.K_len (d.K_of_M hp)
  have hlen : xs.length + 1 ≤ 140737488355328 := Nat.le_trans (Nat.le_mul_of_pos_right _ hb0) hl
  obtain ⟨v1, w1, hrun, r1, r2, _, r4⟩ := run_append_own_at (P := P) (w := W.alloc (.cells cs.toArray e)) base t o.type e i0 z d.sz bytes ht hi hz0 hz1 hz2 hz hs0 v xs.length inner (hown.alloc _) ⟨W.heap.size, 0, none⟩ 1 1 cs (by rw [hcl]; simp)
    (by simpa using World.news_of_block (cs := cs.toArray) (t := e) (fr := (0, 0)) (heap_alloc_new W (.cells cs.toArray e))) (d.K_one (d.K_of_M hp)) (by simp only [maxLen]; omega) hl (by simp; omega)
  have hg : W.grownBy w1 v.ownBlock := by
    have h1 := World.grownBy_alloc W (.cells cs.toArray e) v.ownBlock
    exact ⟨r2.os.trans h1.os, r2.tape.trans h1.tape, r2.output.trans h1.output, Nat.le_trans h1.size r2.size, fun k hk hne => (r2.block k (Nat.lt_of_lt_of_le hk h1.size) hne).trans (h1.block k hk hne)⟩
  have hat : v1.ownBlock = v.ownBlock ∨ ∃ b, v1.ownBlock = some b ∧ W.heap.size ≤ b := by
    rcases r4 with r4 | r4
    · exact .inl r4
    · exact .inr ⟨_, r4, by simp⟩
  have hK := h v1 w1 (Kd.R_appended h0 hr hp hokp hfresh r1 hg hat) hg hat
  refine wpListIn_plain hgd fun K' hK' => ?_
  unfold Oper.wpIn
  refine ⟨?_, ?_⟩
  · simp [Oper.about, ho, resolve, Target.leads, Sem.run_pure]
  · rw [Oper.semAt_plain F _ _ (by rw [ho]; intro c hc'; cases hc')]
    simp [execOp, ho, resolve, invoke, builtin, hs, hx, hrun, Result.andThen]
    exact hK' _ _ hK
end
def Row (W : World) (base : Nat) (ok : Nat → Prop) (v : Value) (xs : List ByteArray) : Prop := Kd.string.R 9 W base ok v xs ∧ (xs = [] → v = .slice none 0 0)
section
variable {W W' : World} {base : Nat} {ok ok' : Nat → Prop} {v : Value} {xs : List ByteArray}
theorem Row.nil (W : World) (base : Nat) (ok : Nat → Prop) : Row W base ok (.slice none 0 0) [] := ⟨Kd.R_nil _ _ _ _ _, fun _ => rfl⟩
theorem Row.lit (W : World) (base : Nat) (ok : Nat → Prop) (x : ByteArray) (hb : base ≤ W.heap.size) (ho : ok W.heap.size) : Row (W.alloc (.cells #[.string x] 9)) base ok (.slice (some ⟨W.heap.size, 0, none⟩) 1 1) [x] := by
  refine ⟨Kd.R_of_own ⟨rfl, .inr ⟨W.heap.size, 1, #[.string x], rfl, hb, heap_alloc_new W _, Nat.le_refl _, by decide, rfl, rfl⟩⟩ (fun k hk => ?_), by simp⟩
  have : W.heap.size = k := by simpa [Value.ownBlock] using hk
  exact this ▸ ho
theorem Row.blocks (h : Row W base ok v xs) : ∀ k, v.ownBlock = some k → base ≤ k ∧ ok k ∧ k < W.heap.size ∧ ∃ cells, W.heap[k]? = some (.cells cells 9 (0, 0)) :=
  fun k hk => ⟨Kd.R_base h.1 k hk, h.1.1 k hk, Kd.R_lt h.1 k hk, Kd.R_typed h.1 k hk⟩
theorem Row.mono (h : Row W base ok v xs) (hk : ∀ k, ok k → ok' k) : Row W base ok' v xs := ⟨Kd.R_mono h.1 hk, h.2⟩
theorem Row.step (h : Row W base ok v xs) (hm : ∀ k, base ≤ k → ok k → k < W.heap.size → W'.heap[k]? = W.heap[k]?) : Row W' base ok v xs :=
  ⟨Kd.R_mono (Kd.R_step (Kd.R_bound h.1) (fun k hk hlt => hm k hk.2.1 hk.1 hlt)) (fun k hk => hk.1), h.2⟩
theorem Row.below {n : Nat} (h : Row W base ok v xs) (hb : Below n W W') (hn : ∀ k, ok k → k < W.heap.size → k < n) : Row W' base ok v xs := h.step (fun k _ hk hlt => hb.block k (hn k hk hlt))
theorem Row.later (h : Row W base ok v xs) (hb : Below W.heap.size W W') : Row W' base ok v xs := h.step (fun k _ _ hlt => hb.block k hlt)
theorem Row.alloc (h : Row W base ok v xs) (o : Obj) : Row (W.alloc o) base ok v xs := h.later ((Below.refl _ _).alloc (Nat.le_refl _) _)
theorem Row.setCell (h : Row W base ok v xs) (p : Addr) (hp : ¬ ok p.block ∨ p.block < base) (u : Value) : Row (W.setCell p u) base ok v xs :=
  h.step (fun k hb hk _ => Below.heap_setCell _ _ _ _ (fun e => by rcases hp with hp | hp; exact hp (e ▸ hk); omega))
theorem Row.grown (h : Row W base ok v xs) {row : Option Nat} (hg : W.grownBy W' row) (hr : ∀ k, row = some k → ok k → k < base) : Row W' base ok v xs :=
  h.step (fun k hb hk hlt => hg.block k hlt (fun e => by have := hr k e.symm hk; omega))
theorem Row.reads (h : Row W base ok v xs) : ∃ A c, v = .slice A xs.length c ∧ xs.length ≤ c ∧ Kd.string.C W A xs.length xs := Kd.R_reads h.1
theorem Row.form (h : Row W base ok v xs) (hne : xs ≠ []) : ∃ g c, v = .slice (some ⟨g, 0, none⟩) xs.length c := by
  obtain ⟨g, c, e, _⟩ := Kd.R_form h.1 (List.length_pos_iff.2 hne)
  exact ⟨g, c, e⟩
theorem Oth.row {H : Nat} (hL : Oth H W W') (h : Row W base ok v xs) : Row W' base ok v xs :=
  ⟨Kd.R_mono (Kd.R_step (Kd.R_bound h.1) (fun k hk _ => by obtain ⟨_, _, _, q, _, cells, hc⟩ := hk; exact hL.block k (.inr ⟨_, hc, rfl⟩))) (fun k hk => hk.1), h.2⟩
theorem Left.row {H : Nat} (hL : Left H W W') (h : Row W base ok v xs) : Row W' base ok v xs := ⟨hL.R h.1, h.2⟩
end
theorem info_s : (Try.prog.info? 9).map (fun i => (i.zero, i.size, i.bytes)) = some (some (.string ⟨#[]⟩), 1, 16) := by kernel_rfl
section
variable {F : Fence} {nF : Nat} {ops : Array Oper} {rest : List Oper} {o : Oper} {a : Act} {Q : Exit → Act → World → Prop}
theorem Row_push {W : World} (base : Nat) (hgd : o.guard = none) (s x : Operand) (ho : o.op = .call { callee := .builtin .append, args := #[s, x], argTypes := #[25, 25] })
    (v : Value) (xs : List ByteArray) (p : ByteArray) (ok : Nat → Prop) (hs : a.eval s = v) (hx : a.eval x = .slice (some ⟨W.heap.size, 0, none⟩) 1 1) (hfresh : ∀ k, W.heap.size ≤ k → ok k)
    (HO : Row W base ok v xs) (hbase : base ≤ W.heap.size) (hl : xs.length ≤ 1100000000000)
    (h : ∀ g c w1, Row w1 base ok (.slice (some ⟨g, 0, none⟩) (xs.length + 1) c) (xs ++ [p]) → W.grownBy w1 v.ownBlock → (some g = v.ownBlock ∨ W.heap.size ≤ g) → wpListIn F nF Try.prog ops Q rest (a.put o.dst (.slice (some ⟨g, 0, none⟩) (xs.length + 1) c)) w1) :
    wpListIn F nF Try.prog ops Q (o :: rest) a (W.alloc (.cells #[.string p] 9)) := by
  refine R_push Kd.string base hgd s x 25 9 (.string ⟨#[]⟩) 16 ho Try.underlying25 info_s rfl (by decide) (by decide) v xs p [.string p] ok (fun _ => False) hs hx rfl (fun _ h => h.elim) hfresh HO.1 hbase (by omega) ?_
  intro v1 w1 hR hg hat
  obtain ⟨g, c, rfl, _⟩ := Kd.R_form hR (by simp)
  rw [List.length_append, List.length_singleton] at *
  refine h g c w1 ⟨hR, by simp⟩ hg ?_
  simpa [Value.ownBlock] using hat
end
end Go.Proofs.Ytdljclokenoogaa.Hw
end
section
namespace Go.Proofs.Ytdljclokenoogaa.Hw
open Go.RowKit Go.Proofs.Ytdljclokenoogaa.Hp Go.Proofs.YtdljclokenoogaaW.PrintWords Go.Proofs.YtdljclokenoogaaW.PrintLast Go.Proofs.YtdljclokenoogaaW.PrintMore
attribute [local go_sem] Oper.semAt_some
structure ShSt (w : World) (A0 : Option Addr) (n c0 B Bo bf : Nat) (D : List (ByteArray × Nat)) (cur : ByteArray) (v : Value) (out : List ByteArray) (W : World) : Prop where
  hB : Below w.heap.size w W
  g0 : W.cell? ⟨w.heap.size, 0, none⟩ = some (.slice A0 n c0)
  g1 : W.cell? ⟨w.heap.size, 1, none⟩ = some (.map (some B))
  fc : W.cell? ⟨w.heap.size + 1, 0, none⟩ = some (.string cur)
  ff : W.frozen? ⟨w.heap.size + 1, 0, none⟩ = false
  m : W.cell? ⟨bf, 0, none⟩ = some (.map (some Bo))
  M : IsMap W Bo (nums D)
  row : Row W (bf + 1) (fun _ => True) v out
  l1 : w.heap.size + 1 < Bo
  l2 : Bo < bf
variable {w : World} {A0 : Option Addr} {n c0 B Bo bf : Nat} {D : List (ByteArray × Nat)} {cur : ByteArray} {v : Value} {out : List ByteArray}
theorem ShSt.lt {W : World} (h : ShSt w A0 n c0 B Bo bf D cur v out W) : bf < W.heap.size := World.block_lt_of_cell? _ _ h.m
theorem ShSt.later {W W' : World} (h : ShSt w A0 n c0 B Bo bf D cur v out W) (hb : Below W.heap.size W W') : ShSt w A0 n c0 B Bo bf D cur v out W' := by
  have h1 := h.l1; have h2 := h.l2; have h3 := h.lt
  exact ⟨h.hB.trans (hb.mono (by omega)), (hb.cell (p := ⟨w.heap.size, 0, none⟩) (by dsimp only; omega)).trans h.g0, (hb.cell (p := ⟨w.heap.size, 1, none⟩) (by dsimp only; omega)).trans h.g1, (hb.cell (p := ⟨w.heap.size + 1, 0, none⟩) (by dsimp only; omega)).trans h.fc, (hb.frozen (p := ⟨w.heap.size + 1, 0, none⟩) (by dsimp only; omega)).trans h.ff,
    (hb.cell (p := ⟨bf, 0, none⟩) (by dsimp only; omega)).trans h.m, h.M.below hb (by omega), h.row.later hb, h1, h2⟩
theorem ShSt.alloc {W : World} (h : ShSt w A0 n c0 B Bo bf D cur v out W) (o : Obj) : ShSt w A0 n c0 B Bo bf D cur v out (W.alloc o) := h.later ((Below.refl _ _).alloc (Nat.le_refl _) _)
theorem ShSt.block {W W' : World} (h : ShSt w A0 n c0 B Bo bf D cur v out W) (hb : Below (bf + 1) W W') (hr : ∀ k, v.ownBlock = some k → W'.heap[k]? = W.heap[k]?) : ShSt w A0 n c0 B Bo bf D cur v out W' := by
  have h1 := h.l1; have h2 := h.l2; have h3 := h.lt
  refine ⟨h.hB.trans (hb.mono (by omega)), (hb.cell (p := ⟨w.heap.size, 0, none⟩) (by dsimp only; omega)).trans h.g0, (hb.cell (p := ⟨w.heap.size, 1, none⟩) (by dsimp only; omega)).trans h.g1, (hb.cell (p := ⟨w.heap.size + 1, 0, none⟩) (by dsimp only; omega)).trans h.fc, (hb.frozen (p := ⟨w.heap.size + 1, 0, none⟩) (by dsimp only; omega)).trans h.ff,
    (hb.cell (p := ⟨bf, 0, none⟩) (by dsimp only; omega)).trans h.m, h.M.below hb (by omega), ⟨?_, h.row.2⟩, h1, h2⟩
  have ho := Kd.own_of_R h.row.1
  exact Kd.R_of_own (own_move ho hr) (fun _ _ => trivial)
theorem ShSt.oth {W W' : World} {H : Nat} (h : ShSt w A0 n c0 B Bo bf D cur v out W) (hb : Oth H W W') (hH : bf + 1 ≤ H) : ShSt w A0 n c0 B Bo bf D cur v out W' :=
  h.block (hb.below.mono hH) (fun k hk => by obtain ⟨_, _, _, cells, hc⟩ := h.row.blocks k hk; exact hb.block k (.inr ⟨_, hc, rfl⟩))
theorem ShSt.next {W W2 : World} (h : ShSt w A0 n c0 B Bo bf D cur v out W) {cur' : ByteArray} {v' : Value} {out' : List ByteArray} (hr : Row W2 (bf + 1) (fun _ => True) v' out')
    (hG : (W.setCell ⟨w.heap.size + 1, 0, none⟩ (.string cur')).grownBy W2 v.ownBlock) : ShSt w A0 n c0 B Bo bf D cur' v' out' W2 := by
  have h1 := h.l1; have h2 := h.l2; have h3 := h.lt
  have hv : ∀ k, k ≤ bf → some k ≠ v.ownBlock := fun k hk e => by have := (h.row.blocks k e.symm).1; omega
  have hs : (W.setCell ⟨w.heap.size + 1, 0, none⟩ (.string cur')).heap.size = W.heap.size := by simp
  have hw := h.hB.size
  refine ⟨(h.hB.setCell (p := ⟨w.heap.size + 1, 0, none⟩) (by dsimp only; omega) _).grown hG (by omega) (fun k e => by have := hv k; have := h.row.blocks k e; omega), hG.cell ((cell_set_ne _ (by dsimp only; omega)).trans h.g0) (hv _ (by dsimp only; omega)), hG.cell ((cell_set_ne _ (by dsimp only; omega)).trans h.g1) (hv _ (by dsimp only; omega)), hG.cell (cell_set h.fc) (hv _ (by dsimp only; omega)), ?_,
    hG.cell ((cell_set_ne _ (by dsimp only; omega)).trans h.m) (hv _ (Nat.le_refl _)), (h.M.setCell _ _).kept hG (fun e => hv Bo (by omega) e), hr, h1, h2⟩
  rw [World.frozen?_of_block (w := W.setCell ⟨w.heap.size + 1, 0, none⟩ (.string cur')) (hG.block (w.heap.size + 1) (by omega) (hv _ (by omega))), World.frozen?_setCell]; exact h.ff
set_option maxRecDepth 100000 in
set_option maxHeartbeats 8000000 in
theorem shortest_calls (A0 : Option Addr) (c0 B : Nat) (l : List S61) (m : List (ByteArray × Value)) (fr tg : ByteArray) (w : World) (hr : k61.C w A0 l.length l) (hc : l.length ≤ c0) (hl : l.length ≤ 1000) (hup : ∀ x ∈ l, x.f3.length ≤ 1100000000000) (hM : IsMap w B m) (hm : IsKinds m l) :
    Calls Try.prog 89 #[.agg #[.slice A0 l.length c0, .map (some B)], .string fr, .string tg] w fun e w' => ∃ v, e = .returned v ∧ Row w' w.heap.size (fun _ => True) v (shortF (ups l) l.length tg fr) ∧ Below w.heap.size w w' := by
  refine (callsIn_wide (n := 20)).1 ?_
  refine callsIn_of_wp_marks Try.func89 rfl trivial ?_
  simp only [Try.ntmps89, List.size_toArray, List.length_cons, List.length_nil, Nat.reduceAdd, Nat.reduceSub, Array.replicate_succ, Array.replicate_zero, List.push_toArray, List.append_toArray, List.nil_append, List.cons_append]
  have HR := Lib.hid hr
  have HM := Lib.hid hm
  have HMB := Lib.hid hM
  have hBlt := hM.lt
  clear hr hm hM
  have hB0 : Below w.heap.size w ((w.alloc (.cells #[.slice A0 l.length c0, .map (some B)] 99)).alloc (.cells #[.string fr] 9)) := ((Below.refl _ w).alloc (Nat.le_refl _) _).alloc (by simp) _
  gi_wp2_with fail
  refine (callsIn_wide.2 (far_calls A0 c0 B l m tg _ (Kd.C_below HR.out hB0) hc hl (HMB.out.below hB0 hBlt) HM.out)).mono ?_
  rintro e w1 ⟨Bo, D, rfl, hBo, hMo, hF, hbd, hb1⟩
  have HBD := Lib.hid hbd
  clear hbd
  have hF' := Lib.hid hF
  clear hF
  have hsz := hb1.size
  simp only [World.size_alloc] at hBo hsz
  have hBw1 : Below w.heap.size w w1 := hB0.trans (hb1.mono (by simp; omega))
  have hBlo := hMo.lt
  have hS : ShSt w A0 l.length c0 B Bo w1.heap.size D fr (.slice none 0 0) [] (w1.alloc (.cells #[.map (some Bo)] 69)) :=
    ⟨hBw1.alloc hBw1.size _, cell_alloc ((hb1.cell (p := ⟨w.heap.size, 0, none⟩) (by simp; omega)).trans (cell_alloc (cell_new _ _ _ _) _)) _, cell_alloc ((hb1.cell (p := ⟨w.heap.size, 1, none⟩) (by simp; omega)).trans (cell_alloc (cell_new _ _ _ _) _)) _,
      cell_alloc ((hb1.cell (p := ⟨w.heap.size + 1, 0, none⟩) (by simp)).trans (by have := cell_new (w.alloc (.cells #[.slice A0 l.length c0, .map (some B)] 99)) #[.string fr] 9 0; rw [World.size_alloc] at this; exact this)) _,
      (frozen_alloc (v := .string fr) ((hb1.cell (p := ⟨w.heap.size + 1, 0, none⟩) (by simp)).trans (by have := cell_new (w.alloc (.cells #[.slice A0 l.length c0, .map (some B)] 99)) #[.string fr] 9 0; rw [World.size_alloc] at this; exact this)) _).trans ((hb1.frozen (p := ⟨w.heap.size + 1, 0, none⟩) (by simp)).trans (by have := frozen_new (w.alloc (.cells #[.slice A0 l.length c0, .map (some B)] 99)) #[.string fr] 9 0; rw [World.size_alloc] at this; exact this)),
      cell_new _ _ _ _, hMo.alloc _, Row.nil _ _ _, by omega, hBlo⟩
  have HS := Lib.hid hS
  have hfc := hS.fc
  have hlk := hS.M.look (P := Try.prog) Try.underlying69 Try.underlying9 (zero3 _) fr false
  rw [mget_nums] at hlk
  clear hb1 hMo hS hB0
  cases hd : mget D fr with
  | none =>
    simp only [hd, Option.map_none, Option.getD_none, Bool.false_eq_true, ↓reduceIte] at hlk
    have HD := Lib.hid hd
    clear hd
    gi_wp2_with fail
    refine leave_marks (Marks.nil w.heap.size _) (fun W' hL => ⟨_, results_tmp rfl _ _ _, ?_⟩)
    exact ⟨_, rfl, by rw [← shortD_eq hF'.out HBD.out]; unfold shortD; rw [HD.out]; exact Row.nil _ _ _, HS.out.hB.trans (hL.below (Nat.le_refl _))⟩
  | some d =>
    have hdp := hF'.out.pos hd
    simp only [hd, Option.map_some, Option.getD_some, Bool.false_eq_true, ↓reduceIte] at hlk
    have HD := Lib.hid hd
    have hd0 : ((d : Int) == 0) = false := beq_eq_false_iff_ne.2 (by omega)
    clear hd
    gi_wp2_with fail
    clear hlk hd0 hfc
    obtain ⟨d, rfl⟩ : ∃ k, d = k + 1 := ⟨d - 1, by omega⟩
    have hsd : shortD (ups l) D fr = wayD (ups l) D d fr := by unfold shortD; rw [HD.out]; rfl
    have hdb := HBD.out _ _ HD.out
    have HSD := Lib.hid hsd
    clear hsd hdp
    refine wpIn_loop_ghost_k (fun gk a' W => ∃ (u0 u1 u5 u6 u9 u10 u11 u12 u13 u14 u15 u16 u17 u18 u19 u20 u21 u22 u23 u24 u25 u26 u27 u28 u29 u30 u31 u32 u33 u34 u35 u36 u37 u38 u39 u40 u41 u42 u43 u44 u45 u46 u47 u48 u49 u50 u51 : Value) (ds : List Deferred) (cur : ByteArray) (v : Value) (out : List ByteArray), Aside0 (ShSt w A0 l.length c0 B Bo w1.heap.size D cur v out W ∧ Marks w.heap.size ds W ∧ mget D cur = some (gk + 1) ∧ out ++ (wayD (ups l) D gk cur).tail = wayD (ups l) D d fr ∧ out.length + gk = d + 1) ∧
      a' = { tmps := #[u0, u1, .string tg, .pointer (some ⟨w.heap.size, 0, none⟩), .pointer (some ⟨w.heap.size + 1, 0, none⟩), u5, u6, .pointer (some ⟨w1.heap.size, 0, none⟩), v, u9, u10, u11, u12, u13, u14, u15, u16, u17, u18, u19, u20, u21, u22, u23, u24, u25, u26, u27, u28, u29, u30, u31, u32, u33, u34, u35, u36, u37, u38, u39, u40, u41, u42, u43, u44, u45, u46, u47, u48, u49, u50, u51], defers := ds }) d ?_ ?_
    · repeat apply Exists.intro
      have hrow := Row.lit (w1.alloc (.cells #[.map (some Bo)] 69)) (w1.heap.size + 1) (fun _ => True) fr (by simp) trivial
      rw [World.size_alloc] at hrow
      have h1 := HS.out.alloc (.cells #[.string fr] 9)
      exact ⟨⟨⟨h1.hB, h1.g0, h1.g1, h1.fc, h1.ff, h1.m, h1.M, hrow, h1.l1, h1.l2⟩, Marks.nil _ _, HD.out, by simp [← wayD_head], by simp; omega⟩, rfl⟩
    · rintro gk a' W ⟨u0, u1, u5, u6, u9, u10, u11, u12, u13, u14, u15, u16, u17, u18, u19, u20, u21, u22, u23, u24, u25, u26, u27, u28, u29, u30, u31, u32, u33, u34, u35, u36, u37, u38, u39, u40, u41, u42, u43, u44, u45, u46, u47, u48, u49, u50, u51, ds, cur, v, out, hrel, rfl⟩ J K hJ hK
      have HJ := Lib.hid hJ
      clear hJ
      have hS := hrel.out.1
      have hfc := hS.fc
      cases gk with
      | zero =>
        have hcur := hF'.out.zero hrel.out.2.2.1
        have hbq : (cur.toList == tg.toList) = true := by rw [toList_beq]; simpa using hcur
        have HC := Lib.hid hcur
        clear hcur
        gi_wp2_with fail
        refine leave_marks hrel.out.2.1 (fun W' hL => ⟨_, results_tmp rfl _ _ _, ?_⟩)
        have ho := hrel.out.2.2.2.1
        simp only [wayD, List.tail_cons, List.append_nil] at ho
        exact ⟨v, rfl, by rw [← shortD_eq hF'.out HBD.out, HSD.out, ← ho]; exact ⟨Kd.R_lower (hL.row hS.row).1 (by omega), hS.row.2⟩, hS.hB.trans (hL.below (Nat.le_refl _))⟩
      | succ n' =>
        have hne : ¬ cur = tg := fun e => by have h1 := hF'.out.one; rw [← e, hrel.out.2.2.1] at h1; cases h1
        have hbq : (cur.toList == tg.toList) = false := by rw [toList_beq]; simpa using hne
        clear hne
        have hg0 := hS.g0
        have hg1 := hS.g1
        have hl1 := hS.l1
        have hl2 := hS.l2
        have hl3 := hS.lt
        have hl4 : w.heap.size < W.heap.size := by omega
        have hl5 : w.heap.size + 1 < W.heap.size := by omega
        gi_wp2_with (gi_at_call 57; refine (callsIn_wide.2 (parents_calls _ _ _ _)).mono ?_; rintro e w2 ⟨rfl, rfl⟩)
        clear hg0 hg1 hfc hbq
        have hBW := hS.hB
        have hszW := hBW.size
        have hlen := Lib.hid hrel.out.2.2.2.2
        have hupc := ups_len hup cur
        have hnext := hF'.out.next hrel.out.2.2.1
        have HN := Lib.hid hnext
        clear hnext
        have hvb := fun k hk => (hS.row.blocks k hk).2.2.1
        have hS3 := ((hS.alloc (.cells #[.slice none 0 0] 25)).alloc (.cells #[.slice A0 l.length c0, .map (some B)] 99)).alloc (.cells #[.string cur] 9)
        have hAt := AtRange.new (W := W.alloc (.cells #[.slice none 0 0] 25)) cur HR.out hc HM.out (hBW.alloc hszW _) (HMB.out.below (hBW.alloc hszW (.cells #[.slice none 0 0] 25)) hBlt)
        rw [World.size_alloc] at hAt
        obtain ⟨WL, hWL⟩ : ∃ WL, (((W.alloc (.cells #[.slice none 0 0] 25)).alloc (.cells #[.slice A0 l.length c0, .map (some B)] 99)).alloc (.cells #[.string cur] 9)) = WL := ⟨_, rfl⟩
        have hWs : WL.heap.size = W.heap.size + 1 + 1 + 1 := by rw [← hWL]; simp
        have hWc : WL.cell? ⟨W.heap.size, 0, none⟩ = some (.slice none 0 0) := by rw [← hWL]; exact cell_alloc (cell_alloc (cell_new _ _ _ _) _) _
        have hWf : WL.frozen? ⟨W.heap.size, 0, none⟩ = false := by rw [← hWL, frozen_alloc (cell_alloc (cell_new _ #[.slice none 0 0] _ 0) _), frozen_alloc (cell_new _ #[.slice none 0 0] _ 0)]; exact frozen_new _ _ _ _
        have hMkL : Marks w.heap.size ds WL := by rw [← hWL]; exact ((hrel.out.2.1.alloc _).alloc _).alloc _
        rw [hWL] at hAt hS3 ⊢
        clear hWL
        refine rangeP hAt (by omega) rfl rfl
          (fun pre Wb => ∃ (vn : Value), Aside0 (ShSt w A0 l.length c0 B Bo w1.heap.size D cur v out Wb ∧ Wb.cell? ⟨W.heap.size, 0, none⟩ = some vn ∧ Wb.frozen? ⟨W.heap.size, 0, none⟩ = false ∧ Row Wb WL.heap.size (fun _ => True) vn ((pre.map (·.1)).filter (fun p => decide (mget D p = some (n' + 1)))) ∧ DefKeep WL.heap.size WL Wb))
          (fun _ _ _ => False) ?_ (fun _ _ _ _ h _ => h) ?_
          (fun x => { tmps := #[u0, u1, .string tg, .pointer (some ⟨w.heap.size, 0, none⟩), .pointer (some ⟨w.heap.size + 1, 0, none⟩), u5, u6, .pointer (some ⟨w1.heap.size, 0, none⟩), v, .pointer (some ⟨W.heap.size, 0, none⟩), .string x.1, u11, u12, u13, u14, u15, u16, u17, u18, u19, u20, .string cur, .string tg, .bool true, .agg #[.slice A0 l.length c0, .map (some B)], .string cur, .func (.func 98) #[] #[.pointer (some ⟨W.heap.size + 1, 0, none⟩), .pointer (some ⟨W.heap.size + 1 + 1, 0, none⟩)], .string x.1, u28, u29, u30, u31, u32, u33, u34, u35, u36, u37, u38, u39, u40, u41, u42, u43, u44, u45, u46, u47, u48, u49, u50, u51], defers := [] }) ?_ ?_ ?_ ?_
        · rintro pre Wb Wc ⟨vn, ⟨h1, h2, h3, h4, h5⟩⟩ hb
          exact ⟨vn, ⟨h1.oth hb (by omega), hb.cell h2, (hb.frozen h2).trans h3, hb.row h4, h5.below hb.below⟩⟩
        · exact ⟨_, ⟨hS3, hWc, hWf, Row.nil _ _ _, DefKeep.refl _ _⟩⟩
        · intro L x Wb K' hK'
          gi_wp2_with fail
          exact hK'
        · rintro L pre x Wb hszb hpre ⟨vn, hI⟩
          have hSb := hI.out.1
          have hfcb := hSb.fc
          have hmb := hSb.m
          have hnb := hI.out.2.1
          have hnf := hI.out.2.2.1
          have hlk1 := hSb.M.look (P := Try.prog) Try.underlying69 Try.underlying9 (zero3 _) x.1 false
          have hlk2 := hSb.M.look (P := Try.prog) Try.underlying69 Try.underlying9 (zero3 _) cur false
          rw [mget_nums] at hlk1 hlk2
          rw [show mget D cur = some (n' + 1 + 1) from hrel.out.2.2.1] at hlk2
          simp only [Option.map_some, Option.getD_some, Bool.false_eq_true, ↓reduceIte] at hlk1 hlk2
          have hpl : Hid (pre.length < 1100000000000) := Nat.lt_of_lt_of_le hpre hupc
          clear hpre
          have hnx := hI.out.2.2.2.1
          have HNX := Lib.hid hnx
          clear hnx
          cases hd' : mget D x.1 with
          | none =>
            simp only [hd', Option.map_none, Option.getD_none] at hlk1
            have HD' := Lib.hid hd'
            clear hd'
            gi_wp2_with (refine wpListIn_skip rfl rfl ?_)
            exact ⟨KeepsFrom.refl _ _, Keeps.refl _ _, vn, ⟨hSb, hnb, hnf, by rw [List.map_append, List.filter_append]; simpa [HD'.out] using HNX.out, hI.out.2.2.2.2⟩⟩
          | some d' =>
            simp only [hd', Option.map_some, Option.getD_some] at hlk1
            have hdp' := hF'.out.pos hd'
            have HD' := Lib.hid hd'
            clear hd'
            have hnb2 : n' + 1 ≤ 1001 := by have := hlen.out; omega
            by_cases he : d' = n' + 1
            · have heb : ((d' : Int) == (n' : Int) + 1) = true := by simp; omega
              have hlenf : ((pre.map (·.1)).filter (fun p => decide (mget D p = some (n' + 1)))).length ≤ 1100000000000 := Nat.le_trans (List.length_filter_le _ _) (by rw [List.length_map]; exact Nat.le_of_lt hpl.out)
              gi_wp2_with (gi_at_builtin; refine Row_push WL.heap.size rfl _ _ rfl vn _ x.1 (fun _ => True) rfl rfl (fun _ _ => trivial) HNX.out hszb hlenf ?_; intro g cp w2 hR2 hG2 hat; have hne2 : some W.heap.size ≠ vn.ownBlock := (fun e => by have := (HNX.out.blocks _ e.symm).1; omega); have hc2 := hG2.cell hnb hne2; have hf2 : w2.frozen? ⟨W.heap.size, 0, none⟩ = false := (World.frozen?_of_block (w := Wb) (hG2.block W.heap.size (by omega) hne2)).trans hnf; have HR2 := Lib.hid hR2; clear hR2 hnb hnf)
              have hvn := fun k (e : vn.ownBlock = some k) => (HNX.out.blocks k e)
              refine ⟨KeepsFrom.setCell (KeepsFrom.cells (KeepsFrom.refl _ _) hG2 (fun k e => by obtain ⟨_, _, _, cells, hc⟩ := hvn k e; exact ⟨_, hc, rfl⟩)) _ _, ((Keeps.refl _ _).grown hG2 (fun k hk => by have := hAt.klt k hk; omega) (fun k e hk => by have := hAt.klt k hk; have := (hvn k e).1; omega)).setCell (by dsimp only; omega) _, _, ⟨?_, cell_set hc2, by rw [World.frozen?_setCell]; exact hf2, ?_, ?_⟩⟩
              · refine hSb.block (((Below.refl _ _).grown hG2 (by omega) (fun k e => by have := (hvn k e).1; omega)).setCell (p := ⟨W.heap.size, 0, none⟩) (by dsimp only; omega) _) (fun k hk => ?_)
                have h1 := hvb k hk
                exact (Below.heap_setCell _ _ _ _ (by dsimp only; omega)).trans (hG2.block k (by omega) (fun e => by have := (hvn k e.symm).1; omega))
              · refine Row.setCell ?_ _ (.inr (by dsimp only; omega)) _
                rw [List.map_append, List.filter_append, List.map_cons, List.map_nil, List.filter_cons, if_pos (by rw [HD'.out, he]; simp), List.filter_nil]
                exact HR2.out
              · exact (hI.out.2.2.2.2.grown hG2 (fun k e => by obtain ⟨_, _, _, cells, hc⟩ := hvn k e; exact ⟨_, hc, rfl⟩)).setCell _ _
            · have heb : ((d' : Int) == (n' : Int) + 1) = false := by simp; omega
              gi_wp2_with (refine wpListIn_skip rfl rfl ?_)
              exact ⟨KeepsFrom.refl _ _, Keeps.refl _ _, vn, ⟨hSb, hnb, hnf, by rw [List.map_append, List.filter_append]; simpa [HD'.out, he] using HNX.out, hI.out.2.2.2.2⟩⟩
        · intro D1 xs Wb hD1 hxs ⟨vn, hI⟩ hdef
          have hSb := hI.out.1
          have hrow : Row Wb WL.heap.size (fun _ => True) vn ((ups l cur).filter (fun p => decide (mget D p = some (n' + 1)))) := by rw [← hxs]; exact hI.out.2.2.2.1
          obtain ⟨nx, hnx⟩ : ∃ nx, (ups l cur).filter (fun p => decide (mget D p = some (n' + 1))) = nx := ⟨_, rfl⟩
          have hcd : wayD (ups l) D (n' + 1) cur = cur :: wayD (ups l) D n' (Lib.minOfS nx) := by rw [← hnx]; rfl
          have HCD := Lib.hid hcd
          have hmd : mget D (Lib.minOfS nx) = some (n' + 1) := by
            have h1 := minOfS_mem nx (by rw [← hnx]; exact HN.out)
            rw [← hnx] at h1
            rw [← hnx]
            simpa using (List.mem_filter.1 h1).2
          have HMD := Lib.hid hmd
          have hnp : nx ≠ [] := by rw [← hnx]; exact HN.out
          rw [hnx] at hrow
          clear hnx hmd hcd
          obtain ⟨A2, c2, rfl, hcap2, hC2⟩ := hrow.reads
          have hnp2 : 0 < nx.length := List.length_pos_iff.2 hnp
          have HNP := Lib.hid hnp
          clear hnp hrow
          have hnb := hI.out.2.1
          have hfcb := hSb.fc
          have hffb := hSb.ff
          have hDL : D1 < Wb.heap.size := (Array.getElem?_eq_some_iff.1 hdef).1
          have hvn := fun k (e : v.ownBlock = some k) => (hSb.row.blocks k e)
          have hrowb := hSb.row.setCell ⟨w.heap.size + 1, 0, none⟩ (.inr (by dsimp only; omega)) (.string (Lib.minOfS nx))
          have hrowb0 := Lib.hid hrowb
          have hszl : w1.heap.size + 1 ≤ (Wb.setCell ⟨w.heap.size + 1, 0, none⟩ (.string (Lib.minOfS nx))).heap.size := by simp; omega
          have hlo : out.length ≤ 1100000000000 := by have := hlen.out; omega
          have HVN := Lib.hid hvn
          clear hvn
          gi_wp2_with (first | (gi_at_call 58; refine (callsIn_wide.2 (min_calls _ _ _ _ hC2 hnp2)).mono ?_; rintro e w2 ⟨rfl, rfl⟩) | (gi_at_builtin; refine Row_push (w1.heap.size + 1) rfl _ _ rfl v _ (Lib.minOfS nx) (fun _ => True) rfl (by rw [World.size_setCell]; rfl) (fun _ _ => trivial) hrowb hszl hlo ?_; intro g cp w2 hR2 hG2 hat; have HR2 := Lib.hid hR2; clear hR2 hrowb))
          have hdef2 : w2.heap[D1]? = some (.deferred (some [])) := by
            refine (hG2.block D1 (by simp; exact hDL) (fun e => by have := hvb D1 e.symm; omega)).trans ((Below.heap_setCell _ _ _ _ (by dsimp only; omega)).trans hdef)
          have hmk2 : Marks w.heap.size ds w2 := ((hMkL.defk hI.out.2.2.2.2).setCell _ _).grown hG2 (fun k e => by
            obtain ⟨_, _, _, cells, hc⟩ := hrowb0.out.blocks k e; exact ⟨_, hc, rfl⟩)
          refine Handed.intro n' (Nat.lt_succ_self _) (HJ.out _ _ _ ⟨_, _, _, _, _, _, _, _, _, _, _, _, _, _, _, _, _, _, _, _, _, _, _, _, _, _, _, _, _, _, _, _, _, _, _, _, _, _, _, _, _, _, _, _, _, _, _, _, Lib.minOfS nx, _, out ++ [Lib.minOfS nx], ⟨hSb.next HR2.out hG2, Marks.cons hMkL hD1 (by omega) hdef2 hmk2, HMD.out, ?_, by have := hlen.out; simp; omega⟩, rfl⟩)
          rw [List.append_assoc, List.singleton_append, ← wayD_head, ← hrel.out.2.2.2.1, HCD.out, List.tail_cons]
        · intro D1 cd pre Wb _ _ h _
          exact h.elim
end Go.Proofs.Ytdljclokenoogaa.Hw
end
section
namespace Go.Proofs.Ytdljclokenoogaa.Hw
open Go.RowKit Go.Proofs.Ytdljclokenoogaa.Hp Go.Proofs.YtdljclokenoogaaW.PrintWords Go.Proofs.YtdljclokenoogaaW.PrintLast Go.Proofs.YtdljclokenoogaaW.PrintMore
attribute [local go_sem] Oper.semAt_some
theorem AtRange.later {w0 w W : World} {K : Nat → Prop} {bg bc B : Nat} {A0 : Option Addr} {c0 : Nat} {l : List S61} {m : List (ByteArray × Value)} {c : ByteArray} (h : AtRange w0 w K bg bc B A0 c0 l m c) (hb : Below w.heap.size w W) : AtRange w0 W K bg bc B A0 c0 l m c :=
  ⟨h.k0, h.kB, h.kg, h.kc, fun k hk => Nat.lt_of_lt_of_le (h.klt k hk) hb.size, h.r, h.cap, h.hm, h.b0.trans (hb.mono h.b0.size), h.b.keeps (Below.keeps hb h.klt) h.kg h.kc h.kB⟩
end Go.Proofs.Ytdljclokenoogaa.Hw
end
section
namespace Go.Proofs.Ytdljclokenoogaa.Hw
theorem memS_iff {xs : List ByteArray} {a : ByteArray} : memS xs a = true ↔ a ∈ xs := by simp [memS]
def vis (up : ByteArray → List ByteArray) : Nat → ByteArray → List ByteArray → List ByteArray
  | 0, _, O => O
  | n + 1, c, O => if memS O c = true then O else (up c).foldl (fun O p => vis up n p O) O ++ [c]
theorem foldl_congr_mem {α β : Type} {f g : β → α → β} : ∀ (l : List α) (b : β), (∀ b x, x ∈ l → f b x = g b x) → l.foldl f b = l.foldl g b := by
  intro l
  induction l with
  | nil => intro b _; rfl
  | cons x l ih => intro b h; simp only [List.foldl_cons]; rw [h b x (by simp)]; exact ih _ (fun b y hy => h b y (by simp [hy]))
theorem foldl_inv {α β : Type} (P : β → Prop) (f : β → α → β) : ∀ (l : List α) (b : β), P b → (∀ b x, x ∈ l → P b → P (f b x)) → P (l.foldl f b) := by
  intro l
  induction l with
  | nil => intro b h _; exact h
  | cons x l ih => intro b h hs; exact ih _ (hs b x (by simp) h) (fun b y hy => hs b y (by simp [hy]))
theorem vis_all {up : ByteArray → List ByteArray} {P : ByteArray → Prop} (hP : ∀ c p, P c → p ∈ up c → P p) : ∀ (n : Nat) (c : ByteArray) (O : List ByteArray), P c → (∀ k ∈ O, P k) → ∀ k ∈ vis up n c O, P k := by
  intro n
  induction n with
  | zero => intro c O _ h; exact h
  | succ n ih =>
    intro c O hc h
    simp only [vis]
    split
    · exact h
    · intro k hk
      rcases List.mem_append.1 hk with hk | hk
      · exact foldl_inv (fun O => ∀ k ∈ O, P k) _ (up c) O h (fun O p hp hO => ih p O (hP c p hc hp) hO) k hk
      · rw [List.mem_singleton.1 hk]; exact hc
end Go.Proofs.Ytdljclokenoogaa.Hw
end
section
namespace Go.Proofs.Ytdljclokenoogaa.Hw
open Go.RowKit Go.Proofs.Ytdljclokenoogaa.Hp Go.Proofs.YtdljclokenoogaaW.PrintWords Go.Proofs.YtdljclokenoogaaW.PrintLast Go.Proofs.YtdljclokenoogaaW.PrintMore
attribute [local go_sem] Oper.semAt_some
structure VisSt (w : World) (A0 : Option Addr) (n c0 B : Nat) (C : List (ByteArray × Nat)) (O : List ByteArray) (v : Value) (W : World) : Prop where
  hB : Below w.heap.size w W
  g0 : W.cell? ⟨w.heap.size, 0, none⟩ = some (.slice A0 n c0)
  g1 : W.cell? ⟨w.heap.size, 1, none⟩ = some (.map (some B))
  co : W.cell? ⟨w.heap.size + 2, 0, none⟩ = some (.map (some (w.heap.size + 1)))
  ou : W.cell? ⟨w.heap.size + 3, 0, none⟩ = some v
  fo : W.frozen? ⟨w.heap.size + 3, 0, none⟩ = false
  vi : W.cell? ⟨w.heap.size + 4, 0, none⟩ = some (.func (.func 101) #[] #[.pointer (some ⟨w.heap.size + 2, 0, none⟩), .pointer (some ⟨w.heap.size, 0, none⟩), .pointer (some ⟨w.heap.size + 4, 0, none⟩), .pointer (some ⟨w.heap.size + 3, 0, none⟩)])
  m : IsMap W (w.heap.size + 1) (nums C)
  row : Row W (w.heap.size + 5) (fun _ => True) v O
section
variable {w : World} {A0 : Option Addr} {n c0 B : Nat} {C : List (ByteArray × Nat)} {O : List ByteArray} {v : Value}
theorem VisSt.lt {W : World} (h : VisSt w A0 n c0 B C O v W) : w.heap.size + 4 < W.heap.size := World.block_lt_of_cell? _ _ h.vi
theorem VisSt.same {W W' : World} (h : VisSt w A0 n c0 B C O v W) (hb : Below (w.heap.size + 5) W W') (hr : ∀ k, v.ownBlock = some k → W'.heap[k]? = W.heap[k]?) : VisSt w A0 n c0 B C O v W' :=
  ⟨h.hB.trans (hb.mono (by omega)), (hb.cell (p := ⟨w.heap.size, 0, none⟩) (by dsimp only; omega)).trans h.g0, (hb.cell (p := ⟨w.heap.size, 1, none⟩) (by dsimp only; omega)).trans h.g1, (hb.cell (p := ⟨w.heap.size + 2, 0, none⟩) (by dsimp only; omega)).trans h.co, (hb.cell (p := ⟨w.heap.size + 3, 0, none⟩) (by dsimp only; omega)).trans h.ou,
    (hb.frozen (p := ⟨w.heap.size + 3, 0, none⟩) (by dsimp only; omega)).trans h.fo, (hb.cell (p := ⟨w.heap.size + 4, 0, none⟩) (by dsimp only; omega)).trans h.vi, h.m.below hb (by omega), Kd.R_of_own (own_move (Kd.own_of_R h.row.1) hr) (fun _ _ => trivial), h.row.2⟩
theorem VisSt.later {W W' : World} (h : VisSt w A0 n c0 B C O v W) (hb : Below W.heap.size W W') : VisSt w A0 n c0 B C O v W' :=
  h.same (hb.mono (by have := h.lt; omega)) (fun k hk => hb.block k (h.row.blocks k hk).2.2.1)
theorem VisSt.alloc {W : World} (h : VisSt w A0 n c0 B C O v W) (o : Obj) : VisSt w A0 n c0 B C O v (W.alloc o) := h.later ((Below.refl _ _).alloc (Nat.le_refl _) _)
theorem VisSt.oth {W W' : World} {H : Nat} (h : VisSt w A0 n c0 B C O v W) (hb : Oth H W W') (hH : w.heap.size + 5 ≤ H) : VisSt w A0 n c0 B C O v W' :=
  h.same (hb.below.mono hH) (fun k hk => by obtain ⟨_, _, _, cells, hc⟩ := h.row.blocks k hk; exact hb.block k (.inr ⟨_, hc, rfl⟩))
theorem VisSt.left {W W' : World} {H : Nat} (h : VisSt w A0 n c0 B C O v W) (hb : Left H W W') (hH : w.heap.size + 5 ≤ H) : VisSt w A0 n c0 B C O v W' :=
  h.same (Left.below hb hH) (fun k hk => by obtain ⟨_, _, _, cells, hc⟩ := h.row.blocks k hk; exact hb.block k (.inr ⟨_, hc, rfl⟩))
theorem VisSt.stored {W W' : World} (h : VisSt w A0 n c0 B C O v W) {C' : List (ByteArray × Nat)} (hm : IsMap W' (w.heap.size + 1) (nums C')) (hg : W.grownBy W' (some (w.heap.size + 1))) : VisSt w A0 n c0 B C' O v W' := by
  have hl := h.lt
  have hne : ∀ k, k ≠ w.heap.size + 1 → some k ≠ some (w.heap.size + 1) := fun k hk e => hk (by injection e)
  refine ⟨h.hB.grown hg (by omega) (fun k e => by cases e; omega), hg.cell h.g0 (hne _ (by dsimp only; omega)), hg.cell h.g1 (hne _ (by dsimp only; omega)), hg.cell h.co (hne _ (by dsimp only; omega)), hg.cell h.ou (hne _ (by dsimp only; omega)), ?_, hg.cell h.vi (hne _ (by dsimp only; omega)), hm,
    h.row.grown hg (fun k e _ => by cases e; omega)⟩
  exact (World.frozen?_of_block (w := W) (hg.block _ (by dsimp only; omega) (hne _ (by dsimp only; omega)))).trans h.fo
theorem VisSt.pushed {W W' : World} (h : VisSt w A0 n c0 B C O v W) {v' : Value} {O' : List ByteArray} (hg : W.grownBy W' v.ownBlock) (hr : Row W' (w.heap.size + 5) (fun _ => True) v' O') :
    VisSt w A0 n c0 B C O' v' (W'.setCell ⟨w.heap.size + 3, 0, none⟩ v') := by
  have hl := h.lt
  have hv : ∀ k, k < w.heap.size + 5 → some k ≠ v.ownBlock := fun k hk e => by have := (h.row.blocks k e.symm).1; omega
  have hc : ∀ {b o : Nat} {u : Value}, b < w.heap.size + 5 → b ≠ w.heap.size + 3 → W.cell? ⟨b, o, none⟩ = some u → (W'.setCell ⟨w.heap.size + 3, 0, none⟩ v').cell? ⟨b, o, none⟩ = some u := fun hb hne hc => (cell_set_ne _ hne).trans (hg.cell hc (hv _ hb))
  refine ⟨(h.hB.grown hg (by omega) (fun k e => by have := (h.row.blocks k e).1; omega)).setCell (p := ⟨w.heap.size + 3, 0, none⟩) (by dsimp only; omega) _, hc (by omega) (by omega) h.g0, hc (by omega) (by omega) h.g1, hc (by omega) (by omega) h.co, cell_set (hg.cell h.ou (hv _ (by dsimp only; omega))), ?_, hc (by omega) (by omega) h.vi,
    (h.m.kept hg (hv _ (by omega))).setCell _ _, hr.setCell _ (.inr (by dsimp only; omega)) _⟩
  rw [World.frozen?_setCell]
  exact (World.frozen?_of_block (w := W) (hg.block _ (by dsimp only; omega) (hv _ (by dsimp only; omega)))).trans h.fo
structure Adv (w : World) (v : Value) (W : World) (v' : Value) (W' : World) : Prop where
  k : Keeps (fun k => k < W.heap.size ∧ k ≠ w.heap.size + 1 ∧ k ≠ w.heap.size + 3 ∧ some k ≠ v.ownBlock) W W'
  o : v'.ownBlock = v.ownBlock ∨ ∃ b, v'.ownBlock = some b ∧ W.heap.size ≤ b
theorem Adv.refl (v : Value) (W : World) : Adv w v W v W := ⟨Keeps.refl _ _, .inl rfl⟩
theorem Adv.trans {v1 v2 : Value} {W W1 W2 : World} (h : Adv w v W v1 W1) (h' : Adv w v1 W1 v2 W2) : Adv w v W v2 W2 := by
  refine ⟨h.k.trans (h'.k.mono (fun k hk => ⟨Nat.lt_of_lt_of_le hk.1 h.k.size, hk.2.1, hk.2.2.1, fun e => ?_⟩)), ?_⟩
  · rcases h.o with ho | ⟨b, ho, hb⟩
    · exact hk.2.2.2 (e.trans ho)
    · rw [ho] at e; cases e; omega
  · rcases h'.o with ho | ⟨b, ho, hb⟩
    · rw [ho]; exact h.o
    · exact .inr ⟨b, ho, Nat.le_trans h.k.size hb⟩
theorem Adv.later {W W' : World} (hb : Below W.heap.size W W') : Adv w v W v W' := ⟨Below.keeps hb (fun k hk => hk.1), .inl rfl⟩
theorem Adv.stored {W W' : World} (hg : W.grownBy W' (some (w.heap.size + 1))) : Adv w v W v W' :=
  ⟨(Keeps.refl _ W).grown hg (fun k hk => hk.1) (fun k e hk => hk.2.1 (by injection e with e; exact e.symm)), .inl rfl⟩
theorem Adv.pushed {W W' : World} {g : Nat} {v' : Value} (hg : W.grownBy W' v.ownBlock) (hv : v'.ownBlock = some g) (hat : some g = v.ownBlock ∨ W.heap.size ≤ g) (u : Value) : Adv w v W v' (W'.setCell ⟨w.heap.size + 3, 0, none⟩ u) := by
  refine ⟨((Keeps.refl _ W).grown hg (fun k hk => hk.1) (fun k e hk => hk.2.2.2 e.symm)).setCell (fun hk => hk.2.2.1 rfl) _, ?_⟩
  rcases hat with h | h
  · exact .inl (hv.trans h)
  · exact .inr ⟨g, hv, h⟩
theorem Adv.from {W W' : World} {v' : Value} {H : Nat} (h : Adv w v W v' W') (hrow : Row W (w.heap.size + 5) (fun _ => True) v O) (hH : w.heap.size + 5 ≤ H) : KeepsFrom H W W' :=
  ⟨h.k.size, fun k o hk ho hcells => (h.k.block k ⟨(Array.getElem?_eq_some_iff.1 ho).1, by omega, by omega, fun e => by
    obtain ⟨_, _, _, cells, hc⟩ := hrow.blocks k e.symm
    rw [ho] at hc; cases hc; cases hcells⟩).trans ho⟩
theorem Adv.left {W W1 W' : World} {v1 : Value} {H : Nat} (h : Adv w v W v1 W1) (hb : Left H W1 W') (hH : W.heap.size ≤ H) : Adv w v W v1 W' :=
  ⟨h.k.trans (hb.mono (fun k hk => .inl (Nat.lt_of_lt_of_le hk.1 hH))), h.o⟩
theorem Adv.oth {W W1 W' : World} {v1 : Value} {H : Nat} (h : Adv w v W v1 W1) (hb : Oth H W1 W') (hH : W.heap.size ≤ H) : Adv w v W v1 W' :=
  ⟨h.k.trans (hb.mono (fun k hk => .inl (Nat.lt_of_lt_of_le hk.1 hH))), h.o⟩
end
structure Cols (C : List (ByteArray × Nat)) (O : List ByteArray) : Prop where
  black : ∀ k, mget C k = some 2 ↔ k ∈ O
  two : ∀ k d, mget C k = some d → d = 1 ∨ d = 2
set_option maxRecDepth 100000 in
set_option maxHeartbeats 8000000 in
theorem visit_calls {w : World} {A0 : Option Addr} {c0 B : Nat} {l : List S61} {m : List (ByteArray × Value)} (hr : k61.C w A0 l.length l) (hc : l.length ≤ c0) (hl : l.length ≤ 1000) (hup : ∀ x ∈ l, x.f3.length ≤ 1100000000000) (hM : IsMap w B m) (hm : IsKinds m l)
    (rk : ByteArray → Nat) (hrk : ∀ c p, p ∈ ups l c → rk p < rk c) : ∀ (n : Nat) (c : ByteArray), rk c < n → ∀ (C : List (ByteArray × Nat)) (O : List ByteArray) (v : Value) (W : World), VisSt w A0 l.length c0 B C O v W → Cols C O → (∀ k, mget C k = some 1 → rk c < rk k) → O.Nodup → (∀ k ∈ O, k ∈ names l) → c ∈ names l →
    Calls Try.prog 101 #[.string c, .pointer (some ⟨w.heap.size + 2, 0, none⟩), .pointer (some ⟨w.heap.size, 0, none⟩), .pointer (some ⟨w.heap.size + 4, 0, none⟩), .pointer (some ⟨w.heap.size + 3, 0, none⟩)] W fun e W' =>
      e = .returned (.tuple #[]) ∧ ∃ C' v', VisSt w A0 l.length c0 B C' (vis (ups l) n c O) v' W' ∧ Cols C' (vis (ups l) n c O) ∧ (∀ k, mget C' k = some 1 ↔ mget C k = some 1) ∧ (vis (ups l) n c O).Nodup ∧ (∀ k ∈ vis (ups l) n c O, k ∈ names l) ∧ Adv w v W v' W' := by
  intro n
  have HR := Lib.hid hr
  have HM := Lib.hid hm
  have HMB := Lib.hid hM
  have hBlt := hM.lt
  have HRK := Lib.hid hrk
  clear hr hm hM hrk
  induction n with
  | zero => intro c h; omega
  | succ n ih =>
    intro c hn C O v W hS hC hgr hnd hOn hcn
    have HIH := Lib.hid ih
    have HC := Lib.hid hC
    have HG := Lib.hid hgr
    have HN := Lib.hid hnd
    have HO := Lib.hid hOn
    clear ih hC hgr hnd hOn
    refine (callsIn_wide (n := 20)).1 ?_
    refine callsIn_of_wp_marks Try.func101 rfl trivial ?_
    simp only [Try.ntmps101, List.size_toArray, List.length_cons, List.length_nil, Nat.reduceAdd, Nat.reduceSub, Array.replicate_succ, Array.replicate_zero, List.push_toArray, List.append_toArray, List.nil_append, List.cons_append]
    have hco := hS.co
    have hg0 := hS.g0
    have hg1 := hS.g1
    have hlt := hS.lt
    have hlk := hS.m.look (P := Try.prog) Try.underlying69 Try.underlying9 (zero3 _) c false
    rw [mget_nums] at hlk
    cases hd : mget C c with
    | some d =>
      have hd2 : d = 2 := by
        rcases HC.out.two c d hd with h | h
        · subst h; have := HG.out c hd; omega
        · exact h
      subst hd2
      have hm1 := memS_iff.2 ((HC.out.black c).1 hd)
      have hv : vis (ups l) (n + 1) c O = O := by simp only [vis, hm1, if_true]
      simp only [hd, Option.map_some, Option.getD_some, Bool.false_eq_true, ↓reduceIte] at hlk
      have HV := Lib.hid hv
      clear hv hm1 hd
      gi_wp2_with fail
      refine leave_marks (Marks.nil W.heap.size _) (fun W' hL => ⟨.tuple #[], by simp [results, Try.results101, go_sem], rfl, C, v, ?_⟩)
      rw [HV.out]
      exact ⟨hS.left hL (by omega), HC.out, fun _ => Iff.rfl, HN.out, HO.out, (Adv.refl v W).left hL (Nat.le_refl _)⟩
    | none =>
      have hm0 : ¬ c ∈ O := fun h => by rw [(HC.out.black c).2 h] at hd; cases hd
      have hm1 : ¬ memS O c = true := fun h => hm0 (memS_iff.1 h)
      have hv : vis (ups l) (n + 1) c O = (ups l c).foldl (fun O p => vis (ups l) n p O) O ++ [c] := by simp only [vis, if_neg hm1]
      simp only [hd, Option.map_none, Option.getD_none, Bool.false_eq_true, ↓reduceIte] at hlk
      have HV := Lib.hid hv
      have HD := Lib.hid hd
      clear hv hm1 hd
      gi_wp2_with (first | (gi_at_mapUpdate; refine wpListIn_store _ rfl _ _ _ 69 rfl 9 3 Try.underlying69 Try.underlying9 (w.heap.size + 1) (nums C) rfl hS.m _ _ rfl rfl ?_; intro w2 hM2 hG2; have hS2 := hS.stored (C' := mput C c 1) (by rw [← mput_nums]; exact hM2) hG2; have hg02 := hS2.g0; have hg12 := hS2.g1; have hlt2 := hS2.lt; clear hlk hM2 hco hg0 hg1) | (gi_at_call 57; refine (callsIn_wide.2 (parents_calls _ _ _ _)).mono ?_; rintro e w3 ⟨rfl, rfl⟩))
      have hAt := AtRange.new (W := w2) c HR.out hc HM.out hS2.hB (HMB.out.below hS2.hB hBlt)
      have hS3 := (hS2.alloc (.cells #[.slice A0 l.length c0, .map (some B)] 99)).alloc (.cells #[.string c] 9)
      obtain ⟨WL, hWL⟩ : ∃ WL, ((w2.alloc (.cells #[.slice A0 l.length c0, .map (some B)] 99)).alloc (.cells #[.string c] 9)) = WL := ⟨_, rfl⟩
      have hWs : WL.heap.size = w2.heap.size + 1 + 1 := by rw [← hWL]; simp
      have hAL : Adv w v W v WL := by
        have h1 : Adv w v W v w2 := Adv.stored hG2
        refine h1.trans (Adv.later ?_)
        rw [← hWL]
        exact ((Below.refl _ _).alloc (Nat.le_refl _) _).alloc (by simp) _
      have hsz2 := hG2.size
      have hvlt : Hid (∀ k, v.ownBlock = some k → w.heap.size + 5 ≤ k ∧ k < W.heap.size) := fun k e => ⟨(hS.row.blocks k e).1, (hS.row.blocks k e).2.2.1⟩
      rw [hWL] at hAt hS3 ⊢
      clear hWL hg02 hg12
      obtain ⟨F, hF⟩ : ∃ F : List (Up l c) → List ByteArray, F = fun pre => (pre.map (·.1)).foldl (fun O p => vis (ups l) n p O) O := ⟨_, rfl⟩
      have HF := Lib.hid hF
      clear hF
      have hstep : Hid (∀ pre x, F (pre ++ [x]) = vis (ups l) n x.1 (F pre)) := by
        show ∀ pre x, _
        intro pre x
        rw [HF.out]
        simp [List.foldl_append]
      refine rangeP hAt (by omega) rfl rfl
        (fun pre Wb => ∃ (C2 : List (ByteArray × Nat)) (v2 : Value), Aside0 (VisSt w A0 l.length c0 B C2 (F pre) v2 Wb ∧ Cols C2 (F pre) ∧ (∀ k, mget C2 k = some 1 ↔ (mget C k = some 1 ∨ k = c)) ∧ (F pre).Nodup ∧ (∀ k ∈ F pre, k ∈ names l) ∧ Adv w v WL v2 Wb))
        (fun _ _ _ => False) ?_ (fun _ _ _ _ h _ => h) ?_
        (fun x => { tmps := #[.string c, .pointer (some ⟨w.heap.size + 2, 0, none⟩), .pointer (some ⟨w.heap.size, 0, none⟩), .pointer (some ⟨w.heap.size + 4, 0, none⟩), .pointer (some ⟨w.heap.size + 3, 0, none⟩), undef, .string x.1, .map (some (w.heap.size + 1)), .string c, .int .i64 0, .bool false, .map (some (w.heap.size + 1)), .string c, .agg #[.slice A0 l.length c0, .map (some B)], .string c, .func (.func 98) #[] #[.pointer (some ⟨w2.heap.size, 0, none⟩), .pointer (some ⟨w2.heap.size + 1, 0, none⟩)], .string x.1, undef, undef, undef, undef, undef, undef, undef, undef, undef], defers := [] }) ?_ ?_ ?_ ?_
      · rintro pre Wb Wc ⟨C2, v2, ⟨h1, h2, h3, h4, h5, h6⟩⟩ hb
        exact ⟨C2, v2, ⟨h1.oth hb (by omega), h2, h3, h4, h5, h6.oth hb (Nat.le_refl _)⟩⟩
      · refine ⟨_, v, ⟨by rw [HF.out]; exact hS3, ?_, ?_, by rw [HF.out]; exact HN.out, by rw [HF.out]; exact HO.out, Adv.refl _ _⟩⟩
        · rw [HF.out]
          refine ⟨fun k => ?_, fun k d hk => ?_⟩
          · rw [mget_mput]
            by_cases hkc : k = c
            · subst hkc; simp [hm0]
            · rw [if_neg hkc]; exact HC.out.black k
          · rw [mget_mput] at hk
            by_cases hkc : k = c
            · subst hkc; rw [if_pos rfl] at hk; left; injection hk with e; exact e.symm
            · rw [if_neg hkc] at hk; exact HC.out.two k d hk
        · intro k
          rw [mget_mput]
          by_cases hkc : k = c
          · simp [hkc]
          · simp [hkc]
      · intro L x Wb K' hK'
        gi_wp2_with fail
        exact hK'
      · rintro L pre x Wb hszb - ⟨C2, v2, hI⟩
        have hSb := hI.out.1
        have hvi := hSb.vi
        have hcall := HIH.out x.1 (by have := HRK.out c x.1 x.2; omega) C2 (F pre) v2 Wb hSb hI.out.2.1 (fun k hk => by
          have h0 := HRK.out c x.1 x.2
          rcases (hI.out.2.2.1 k).1 hk with h | h
          · have := HG.out k h; omega
          · subst h; exact h0) hI.out.2.2.2.1 hI.out.2.2.2.2.1 (ups_mem x.2).2
        have HCA := Lib.hid hcall
        clear hcall
        gi_wp2_with (gi_at_call 101; refine (CallsIn.inRound L (callsIn_wide.2 HCA.out)).mono ?_; rintro e w4 ⟨rfl, C3, v3, hpost⟩)
        obtain ⟨p1, p2, p3, p4, p5, p6⟩ := hpost
        refine ⟨p6.from hSb.row (by omega), p6.k.mono (fun k hk => ?_), C3, v3, ⟨by rw [hstep.out]; exact p1, by rw [hstep.out]; exact p2, fun k => (p3 k).trans (hI.out.2.2.1 k), by rw [hstep.out]; exact p4, by rw [hstep.out]; exact p5, hI.out.2.2.2.2.2.trans p6⟩⟩
        refine ⟨by have := hAt.klt k hk; omega, by omega, by omega, fun e => ?_⟩
        rcases hI.out.2.2.2.2.2.o with h | ⟨b, h, hb⟩
        · have := hvlt.out k (by rw [← h]; exact e.symm); omega
        · have := hAt.klt k hk; rw [h] at e; cases e; omega
      · intro D1 xs Wb hD1 hxs ⟨C2, v2, hI⟩ hdef
        have hSb := hI.out.1
        have hFx : F xs = (ups l c).foldl (fun O p => vis (ups l) n p O) O := by rw [HF.out]; exact congrArg (List.foldl (fun O p => vis (ups l) n p O) O) hxs
        have HFx := Lib.hid hFx
        clear hFx
        have hcob := hSb.co
        have hltb := hSb.lt
        have hDL : D1 < Wb.heap.size := (Array.getElem?_eq_some_iff.1 hdef).1
        have hcF : ¬ c ∈ F xs := fun h => by have h1 := (hI.out.2.1.black c).2 h; rw [(hI.out.2.2.1 c).2 (.inr rfl)] at h1; cases h1
        have hlen : (F xs).length ≤ 1100000000000 := by
          have h1 := length_le_of_subset (F xs) (names l) hI.out.2.2.2.1 hI.out.2.2.2.2.1
          have h2 : (names l).length = l.length := by simp [names]
          omega
        have HCF := Lib.hid hcF
        have HLEN := Lib.hid hlen
        clear hcF hlen
        gi_wp2_with (first | (gi_at_mapUpdate; refine wpListIn_store _ rfl _ _ _ 69 rfl 9 3 Try.underlying69 Try.underlying9 (w.heap.size + 1) (nums C2) rfl hSb.m _ _ rfl rfl ?_; intro w5 hM5 hG5; have hS5 := hSb.stored (C' := mput C2 c 2) (by rw [← mput_nums]; exact hM5) hG5; have hou5 := hS5.ou; have hfo5 := hS5.fo; have hlt5 := hS5.lt; clear hM5 hcob) | (gi_at_builtin; refine Row_push (w.heap.size + 5) rfl _ _ rfl v2 _ c (fun _ => True) rfl rfl (fun _ _ => trivial) hS5.row (by omega) HLEN.out ?_; intro g cp w6 hR6 hG6 hat; have hne6 : some (w.heap.size + 3) ≠ v2.ownBlock := (fun e => by have := (hS5.row.blocks _ e.symm).1; omega); have hc6 := hG6.cell hou5 hne6; have hf6 : w6.frozen? ⟨w.heap.size + 3, 0, none⟩ = false := (World.frozen?_of_block (w := w5) (hG6.block (w.heap.size + 3) (by omega) hne6)).trans hfo5; have HR6 := Lib.hid hR6; clear hR6 hou5 hfo5))
        have hdef2 : (w6.setCell ⟨w.heap.size + 3, 0, none⟩ (.slice (some ⟨g, 0, none⟩) ((F xs).length + 1) cp)).heap[D1]? = some (.deferred (some [])) := by
          have h5 : w5.heap[D1]? = some (.deferred (some [])) := (hG5.block D1 hDL (fun e => by injection e with e; omega)).trans hdef
          refine (Below.heap_setCell _ _ _ _ (by dsimp only; omega)).trans ((hG6.block D1 (by have := hG5.size; omega) (fun e => ?_)).trans h5)
          obtain ⟨_, _, _, cells, hcc⟩ := hS5.row.blocks D1 e.symm
          rw [h5] at hcc; cases hcc
        have hS6 := hS5.pushed hG6 HR6.out
        have hA6 := ((hAL.trans hI.out.2.2.2.2.2).trans (Adv.stored hG5)).trans (Adv.pushed (v' := .slice (some ⟨g, 0, none⟩) ((F xs).length + 1) cp) hG6 rfl hat (.slice (some ⟨g, 0, none⟩) ((F xs).length + 1) cp))
        refine leave_marks (Marks.cons (Marks.nil WL.heap.size WL) hD1 (Nat.le_refl _) hdef2 (Marks.nil _ _)) (fun W' hL => ⟨.tuple #[], by simp [results, Try.results101, go_sem], rfl, mput C2 c 2, .slice (some ⟨g, 0, none⟩) ((F xs).length + 1) cp, ?_⟩)
        rw [HV.out, ← HFx.out]
        refine ⟨hS6.left hL (by omega), ⟨fun k => ?_, fun k d hk => ?_⟩, fun k => ?_, ?_, ?_, hA6.left hL (by omega)⟩
        · rw [mget_mput]
          by_cases hkc : k = c
          · simp [hkc]
          · simp [hkc, hI.out.2.1.black k]
        · rw [mget_mput] at hk
          by_cases hkc : k = c
          · subst hkc; rw [if_pos rfl] at hk; right; injection hk with e; exact e.symm
          · rw [if_neg hkc] at hk; exact hI.out.2.1.two k d hk
        · rw [mget_mput]
          by_cases hkc : k = c
          · subst hkc; simp [HD.out]
          · simp [hkc, hI.out.2.2.1 k]
        · rw [List.nodup_append]
          exact ⟨hI.out.2.2.2.1, by simp, fun a ha b hb e => by rw [List.mem_singleton.1 hb] at e; exact HCF.out (e ▸ ha)⟩
        · intro k hk
          rcases List.mem_append.1 hk with hk | hk
          · exact hI.out.2.2.2.2.1 k hk
          · rw [List.mem_singleton.1 hk]; exact hcn
      · intro D1 cd pre Wb _ _ h _
        exact h.elim
end Go.Proofs.Ytdljclokenoogaa.Hw
end
section
namespace Go.Proofs.Ytdljclokenoogaa.Hw
open Go.RowKit Go.Proofs.Ytdljclokenoogaa.Hp Go.Proofs.YtdljclokenoogaaW.PrintWords Go.Proofs.YtdljclokenoogaaW.PrintLast Go.Proofs.YtdljclokenoogaaW.PrintMore
attribute [local go_sem] Oper.semAt_some
set_option maxRecDepth 100000 in
set_option maxHeartbeats 4000000 in
theorem above_calls (A0 : Option Addr) (c0 B : Nat) (l : List S61) (m : List (ByteArray × Value)) (c : ByteArray) (w : World) (hr : k61.C w A0 l.length l) (hc : l.length ≤ c0) (hl : l.length ≤ 1000) (hup : ∀ x ∈ l, x.f3.length ≤ 1100000000000) (hM : IsMap w B m) (hm : IsKinds m l)
    (rk : ByteArray → Nat) (hrk : ∀ c p, p ∈ ups l c → rk p < rk c) (n : Nat) (hn : rk c < n) (hcn : c ∈ names l) :
    Calls Try.prog 68 #[.agg #[.slice A0 l.length c0, .map (some B)], .string c] w fun e w' => ∃ v, e = .returned v ∧ Row w' w.heap.size (fun _ => True) v (vis (ups l) n c []) ∧ Below w.heap.size w w' := by
  refine (callsIn_wide (n := 20)).1 ?_
  refine callsIn_of_wp Try.func68 rfl trivial ?_
  simp only [Try.ntmps68, List.size_toArray, List.length_cons, List.length_nil, Nat.reduceAdd, Nat.reduceSub, Array.replicate_succ, Array.replicate_zero, List.push_toArray, List.append_toArray, List.nil_append, List.cons_append]
  have hmm := @run_makeMap Try.prog
  have hV := visit_calls hr hc hl hup hM hm rk hrk n c hn [] [] (.slice none 0 0)
  have HV := Lib.hid hV
  clear hV hr hM hm hrk
  obtain ⟨fv, hfv⟩ : ∃ fv : Value, fv = .func (.func 101) #[] #[.pointer (some ⟨w.heap.size + 1 + 1, 0, none⟩), .pointer (some ⟨w.heap.size, 0, none⟩), .pointer (some ⟨w.heap.size + 1 + 1 + 1 + 1, 0, none⟩), .pointer (some ⟨w.heap.size + 1 + 1 + 1, 0, none⟩)] := ⟨_, rfl⟩
  have hS : VisSt w A0 l.length c0 B [] [] (.slice none 0 0) (((((w.alloc (.cells #[.slice A0 l.length c0, .map (some B)] 99)).alloc (.map #[] 0)).alloc (.cells #[.map (some (w.heap.size + 1))] 69)).alloc (.cells #[.slice none 0 0] 25)).alloc (.cells #[fv] 138)) := by
    have hsz1 : (w.alloc (.cells #[.slice A0 l.length c0, .map (some B)] 99)).heap.size = w.heap.size + 1 := by simp
    have hsz2 : ((w.alloc (.cells #[.slice A0 l.length c0, .map (some B)] 99)).alloc (.map #[] 0)).heap.size = w.heap.size + 2 := by simp
    have hsz3 : (((w.alloc (.cells #[.slice A0 l.length c0, .map (some B)] 99)).alloc (.map #[] 0)).alloc (.cells #[.map (some (w.heap.size + 1))] 69)).heap.size = w.heap.size + 3 := by simp
    have hsz4 : ((((w.alloc (.cells #[.slice A0 l.length c0, .map (some B)] 99)).alloc (.map #[] 0)).alloc (.cells #[.map (some (w.heap.size + 1))] 69)).alloc (.cells #[.slice none 0 0] 25)).heap.size = w.heap.size + 4 := by simp
    refine ⟨?_, ?_, ?_, ?_, ?_, ?_, ?_, ?_, Row.nil _ _ _⟩
    · exact (((((Below.refl _ w).alloc (Nat.le_refl _) _).alloc (by omega) _).alloc (by omega) _).alloc (by omega) _).alloc (by omega) _
    · exact cell_alloc (cell_alloc (cell_alloc (cell_alloc (cell_new _ _ _ _) _) _) _) _
    · exact cell_alloc (cell_alloc (cell_alloc (cell_alloc (cell_new _ _ _ _) _) _) _) _
    · refine cell_alloc (cell_alloc ?_ _) _
      rw [← hsz2]; exact cell_new _ _ _ _
    · refine cell_alloc ?_ _
      rw [← hsz3]; exact cell_new _ _ _ _
    · rw [frozen_alloc (v := .slice none 0 0) (by rw [← hsz3]; exact cell_new _ _ _ _), ← hsz3]; exact frozen_new _ _ _ _
    · refine Eq.trans (b := some fv) ?_ (by rw [hfv])
      rw [← hsz4]; exact cell_new _ _ _ _
    · have := IsMap.made (w.alloc (.cells #[.slice A0 l.length c0, .map (some B)] 99))
      rw [hsz1] at this
      exact ((this.alloc _).alloc _).alloc _
  rw [hfv] at hS
  clear hfv
  obtain ⟨W5, hW5⟩ : ∃ W5, (((((w.alloc (.cells #[.slice A0 l.length c0, .map (some B)] 99)).alloc (.map #[] 0)).alloc (.cells #[.map (some (w.heap.size + 1))] 69)).alloc (.cells #[.slice none 0 0] 25)).alloc (.cells #[.func (.func 101) #[] #[.pointer (some ⟨w.heap.size + 1 + 1, 0, none⟩), .pointer (some ⟨w.heap.size, 0, none⟩), .pointer (some ⟨w.heap.size + 1 + 1 + 1 + 1, 0, none⟩), .pointer (some ⟨w.heap.size + 1 + 1 + 1, 0, none⟩)]] 138)) = W5 := ⟨_, rfl⟩
  have hS5 : VisSt w A0 l.length c0 B [] [] (.slice none 0 0) W5 := by rw [← hW5]; exact hS
  clear hS
  have hcall := HV.out W5 hS5 ⟨by simp [mget], by simp [mget]⟩ (by simp [mget]) List.nodup_nil (by simp) hcn
  have HC := Lib.hid hcall
  have hvi : W5.cell? ⟨w.heap.size + 1 + 1 + 1 + 1, 0, none⟩ = some (.func (.func 101) #[] #[.pointer (some ⟨w.heap.size + 1 + 1, 0, none⟩), .pointer (some ⟨w.heap.size, 0, none⟩), .pointer (some ⟨w.heap.size + 1 + 1 + 1 + 1, 0, none⟩), .pointer (some ⟨w.heap.size + 1 + 1 + 1, 0, none⟩)]) := hS5.vi
  clear hcall hS5
  gi_wp2_with (gi_at_call 101; refine (callsIn_wide.2 HC.out).mono ?_; rintro e w4 ⟨rfl, C', v', hS', hpost⟩; have hou : w4.cell? ⟨w.heap.size + 1 + 1 + 1, 0, none⟩ = some v' := hS'.ou)
  go_ret
  exact ⟨v', rfl, ⟨Kd.R_lower hS'.row.1 (by omega), hS'.row.2⟩, hS'.hB⟩
set_option maxRecDepth 100000 in
set_option maxHeartbeats 4000000 in
theorem has_calls (A0 : Option Addr) (c0 B : Nat) (l : List S61) (m : List (ByteArray × Value)) (c a : ByteArray) (w : World) (hr : k61.C w A0 l.length l) (hc : l.length ≤ c0) (hl : l.length ≤ 1000) (hup : ∀ x ∈ l, x.f3.length ≤ 1100000000000) (hM : IsMap w B m) (hm : IsKinds m l)
    (rk : ByteArray → Nat) (hrk : ∀ c p, p ∈ ups l c → rk p < rk c) (n : Nat) (hn : rk c < n) (hcn : c ∈ names l) :
    Calls Try.prog 70 #[.agg #[.slice A0 l.length c0, .map (some B)], .string c, .string a] w fun e w' => e = .returned (.bool (memS (vis (ups l) n c []) a)) ∧ Below w.heap.size w w' := by
  refine (callsIn_wide (n := 20)).1 ?_
  refine callsIn_of_wp Try.func70 rfl trivial ?_
  simp only [Try.ntmps70, List.size_toArray, List.length_cons, List.length_nil, Nat.reduceAdd, Nat.reduceSub, Array.replicate_succ, Array.replicate_zero, List.push_toArray, List.append_toArray, List.nil_append, List.cons_append]
  have hb0 : Below w.heap.size w (w.alloc (.cells #[.slice A0 l.length c0, .map (some B)] 99)) := (Below.refl _ w).alloc (Nat.le_refl _) _
  have hcall := above_calls A0 c0 B l m c (w.alloc (.cells #[.slice A0 l.length c0, .map (some B)] 99)) (Kd.C_below hr hb0) hc hl hup (hM.below hb0 hM.lt) hm rk hrk n hn hcn
  have HC := Lib.hid hcall
  clear hcall hr hM hm hrk
  gi_wp2_with (first | (gi_at_call 68; refine (callsIn_wide.2 HC.out).mono ?_; rintro e w4 ⟨v, rfl, hR, hb⟩; obtain ⟨A2, c2, rfl, hcap2, hC2⟩ := hR.reads) | (gi_at_call 79; refine (callsIn_wide.2 (contains_calls _ _ _ a _ hC2)).mono ?_; rintro e w5 ⟨rfl, rfl⟩))
  go_ret
  exact ⟨rfl, hb0.trans (hb.mono (by simp))⟩
end Go.Proofs.Ytdljclokenoogaa.Hw
end
section
namespace Go.Proofs.Ytdljclokenoogaa.Hw
open Go.RowKit Go.Proofs.Ytdljclokenoogaa.Hp Go.Proofs.YtdljclokenoogaaW.PrintWords Go.Proofs.YtdljclokenoogaaW.PrintLast Go.Proofs.YtdljclokenoogaaW.PrintMore
attribute [local go_sem] Oper.semAt_some
theorem take_nth (xs : List ByteArray) (k : Nat) (h : k < xs.length) : xs.take (k + 1) = xs.take k ++ [nth xs k] := by
  rw [List.take_succ_eq_append_getElem h]; simp [nth, h]
set_option maxRecDepth 100000 in
set_option maxHeartbeats 4000000 in
theorem filter_calls (A0 : Option Addr) (c0 : Nat) (xs : List ByteArray) (fn : Nat) (cap : Array Value) (p : ByteArray → Bool) (w : World) (hr : Kd.string.C w A0 xs.length xs) (hl : xs.length ≤ 1100000000000) (hp : Pred w fn cap xs p) :
    Calls Try.prog 67 #[.slice A0 xs.length c0, .func (.func fn) #[] cap] w fun e w' => ∃ v, e = .returned v ∧ Row w' w.heap.size (fun _ => True) v (xs.filter p) ∧ Below w.heap.size w w' := by
  refine (callsIn_wide (n := 20)).1 ?_
  refine callsIn_of_wp Try.func67 rfl trivial ?_
  simp only [Try.ntmps67, List.size_toArray, List.length_cons, List.length_nil, Nat.reduceAdd, Nat.reduceSub, Array.replicate_succ, Array.replicate_zero, List.push_toArray, List.append_toArray, List.nil_append, List.cons_append]
  have HR := Lib.hid hr
  have HP := Lib.hid hp
  clear hr hp
  gi_wp2_with fail
  gi_loopw [5, 10] (fun v i wr => ∃ (k : Nat), k ≤ xs.length ∧ i = .int .i64 k ∧ Aside0 (Row wr w.heap.size (fun _ => True) v ((xs.take k).filter p)) ∧ Below w.heap.size w wr) (fun _ i _ => xs.length - (intOf i).toNat)
  case atStart => exact ⟨0, Nat.zero_le _, rfl, ⟨Row.nil _ _ _⟩, Below.refl _ _⟩
  case round =>
    obtain ⟨k, hk, rfl, hrow, hB⟩ := hrel
    by_cases hlt : k < xs.length
    · obtain ⟨ad, ea, hx⟩ := at_s (Kd.C_below HR.out hB) k hlt
      subst ea
      have hen := HP.out.enter
      have hts := take_nth xs k hlt
      have HTS := Lib.hid hts
      clear hts
      gi_wp2_with fail
      refine (callsIn_wide.2 (HP.out.call _ (getD_mem hlt) wr hB)).mono ?_
      rintro e w1 ⟨rfl, hb1⟩
      have hrow1 := hrow.out.later hb1
      have hB1 := hB.trans (hb1.mono hB.size)
      have hlf : ((xs.take k).filter p).length ≤ 1100000000000 := Nat.le_trans (List.length_filter_le _ _) (by rw [List.length_take]; omega)
      have HROW := Lib.hid hrow1
      have HLF := Lib.hid hlf
      clear hrow1 hlf
      cases he : p (nth xs k) with
      | true =>
        have HE := Lib.hid he
        clear he
        gi_wp2_with (gi_at_builtin; refine Row_push w.heap.size rfl _ _ rfl u5 _ (nth xs k) (fun _ => True) rfl rfl (fun _ _ => trivial) HROW.out hB1.size HLF.out ?_; intro g cp w2 hR2 hG2 hat; have HR2 := Lib.hid hR2; clear hR2)
        go_roundw
        case rel =>
          refine ⟨k + 1, by omega, by go_num, ⟨?_⟩, hB1.grown hG2 hB1.size (fun k e => (HROW.out.blocks k e).1)⟩
          rw [HTS.out, List.filter_append, List.filter_cons, if_pos HE.out, List.filter_nil]
          exact HR2.out
        case measure => simp [intOf]; omega
      | false =>
        have HE := Lib.hid he
        clear he
        gi_wp2_with fail
        go_roundw
        case rel =>
          refine ⟨k + 1, by omega, by go_num, ⟨?_⟩, hB1⟩
          rw [HTS.out, List.filter_append, List.filter_cons, if_neg (by rw [HE.out]; decide), List.filter_nil, List.append_nil]
          exact HROW.out
        case measure => simp [intOf]; omega
    · gi_wp2_with fail
      go_ret
      obtain rfl : k = xs.length := by omega
      have := hrow.out
      rw [List.take_length] at this
      exact ⟨_, rfl, this, hB⟩
theorem names_take (l : List S61) (k : Nat) (h : k < l.length) : names (l.take (k + 1)) = names (l.take k) ++ [(rd_T61 l (k : Int)).f0] := by
  rw [take_rd l k h]; simp [names]
set_option maxRecDepth 100000 in
set_option maxHeartbeats 4000000 in
theorem names_calls (A0 : Option Addr) (c0 : Nat) (mv : Value) (l : List S61) (fn : Nat) (cap : Array Value) (p : ByteArray → Bool) (w : World) (hr : k61.C w A0 l.length l) (hc : l.length ≤ c0) (hl : l.length ≤ 1000) (hp : Pred w fn cap (names l) p) :
    Calls Try.prog 59 #[.agg #[.slice A0 l.length c0, mv], .func (.func fn) #[] cap] w fun e w' => ∃ v, e = .returned v ∧ Row w' w.heap.size (fun _ => True) v ((names l).filter p) ∧ Below w.heap.size w w' := by
  refine (callsIn_wide (n := 20)).1 ?_
  refine callsIn_of_wp Try.func59 rfl trivial ?_
  simp only [Try.ntmps59, List.size_toArray, List.length_cons, List.length_nil, Nat.reduceAdd, Nat.reduceSub, Array.replicate_succ, Array.replicate_zero, List.push_toArray, List.append_toArray, List.nil_append, List.cons_append]
  have HR := Lib.hid hr
  have HP := Lib.hid hp
  clear hr hp
  gi_wp2_with fail
  gi_loopw [5, 11] (fun v i wr => ∃ (k : Nat), k ≤ l.length ∧ i = .int .i64 k ∧ Aside0 (Row wr w.heap.size (fun _ => True) v ((names (l.take k)).filter p)) ∧ Below w.heap.size w wr) (fun _ i _ => l.length - (intOf i).toNat)
  case atStart => exact ⟨0, Nat.zero_le _, rfl, ⟨Row.nil _ _ _⟩, (Below.refl _ _).alloc (Nat.le_refl _) _⟩
  case round =>
    obtain ⟨k, hk, rfl, hrow, hB⟩ := hrel
    by_cases hlt : k < l.length
    · obtain ⟨ad, A2, c2, A3, c3, A4, c4, A5, c5, A6, c6, ea, hx0, hx1, hx2, hx3, hx4, hx5, hx6, _⟩ := at_T61 (Kd.C_below HR.out hB) (k : Int) (by omega) (by omega)
      subst ea
      rw [Int.toNat_natCast] at hx0 hx1 hx2 hx3 hx4 hx5 hx6
      have hen := HP.out.enter
      have hts := names_take l k hlt
      have HTS := Lib.hid hts
      clear hts
      have hmem := names_rd hlt
      obtain ⟨nm, hnm⟩ : ∃ nm, (rd_T61 l (k : Int)).f0 = nm := ⟨_, rfl⟩
      have hsz := hB.size
      rw [hnm] at hmem
      gi_wp2_with fail
      obtain ⟨WL, hWL⟩ : ∃ WL, wr.alloc (.cells #[.string nm, .bool (rd_T61 l (k : Int)).f1, .slice A2 (rd_T61 l (k : Int)).f2.length c2, .slice A3 (rd_T61 l (k : Int)).f3.length c3, .slice A4 (rd_T61 l (k : Int)).f4.length c4, .slice A5 (rd_T61 l (k : Int)).f5.length c5, .slice A6 (rd_T61 l (k : Int)).f6.length c6] 61) = WL := ⟨_, rfl⟩
      have hBL : Below w.heap.size w WL := by rw [← hWL]; exact hB.alloc hsz _
      have hrowL : Row WL w.heap.size (fun _ => True) u5 ((names (l.take k)).filter p) := by rw [← hWL]; exact hrow.out.alloc _
      have hcL : WL.cell? ⟨wr.heap.size, 0, none⟩ = some (.string nm) := by rw [← hWL]; exact cell_new _ _ _ _
      rw [hWL]
      clear hWL hx0 hx1 hx2 hx3 hx4 hx5 hx6
      refine (callsIn_wide.2 (HP.out.call nm hmem WL hBL)).mono ?_
      rintro e w1 ⟨rfl, hb1⟩
      have hc1 : w1.cell? ⟨wr.heap.size, 0, none⟩ = some (.string nm) := (hb1.cell (p := ⟨wr.heap.size, 0, none⟩) (World.block_lt_of_cell? _ _ hcL)).trans hcL
      have hrow1 := hrowL.later hb1
      have hB1 := hBL.trans (hb1.mono hBL.size)
      have hlf : ((names (l.take k)).filter p).length ≤ 1100000000000 := Nat.le_trans (List.length_filter_le _ _) (by simp [names, List.length_take]; omega)
      have HROW := Lib.hid hrow1
      have HLF := Lib.hid hlf
      have HNM := Lib.hid hnm
      clear hrow1 hlf hrowL hcL hnm
      cases he : p nm with
      | true =>
        have HE := Lib.hid he
        clear he
        gi_wp2_with (gi_at_builtin; refine Row_push w.heap.size rfl _ _ rfl u5 _ nm (fun _ => True) rfl rfl (fun _ _ => trivial) HROW.out hB1.size HLF.out ?_; intro g cp w2 hR2 hG2 hat; have HR2 := Lib.hid hR2; clear hR2)
        go_roundw
        case rel =>
          refine ⟨k + 1, by omega, by go_num, ⟨?_⟩, hB1.grown hG2 hB1.size (fun k e => (HROW.out.blocks k e).1)⟩
          rw [HTS.out, HNM.out, List.filter_append, List.filter_cons, if_pos HE.out, List.filter_nil]
          exact HR2.out
        case measure => simp [intOf]; omega
      | false =>
        have HE := Lib.hid he
        clear he
        gi_wp2_with fail
        go_roundw
        case rel =>
          refine ⟨k + 1, by omega, by go_num, ⟨?_⟩, hB1⟩
          rw [HTS.out, HNM.out, List.filter_append, List.filter_cons, if_neg (by rw [HE.out]; decide), List.filter_nil, List.append_nil]
          exact HROW.out
        case measure => simp [intOf]; omega
    · gi_wp2_with fail
      go_ret
      obtain rfl : k = l.length := by omega
      have := hrow.out
      rw [List.take_length] at this
      exact ⟨_, rfl, this, hB⟩
end Go.Proofs.Ytdljclokenoogaa.Hw
end
section
namespace Go.Proofs.Ytdljclokenoogaa.Hw
open Go.RowKit Go.Proofs.Ytdljclokenoogaa.Hp Go.Proofs.YtdljclokenoogaaW.PrintWords Go.Proofs.YtdljclokenoogaaW.PrintLast Go.Proofs.YtdljclokenoogaaW.PrintMore
attribute [local go_sem] Oper.semAt_some
def lessS (a b : ByteArray) : Bool := Op.bytesLess a.toList b.toList
def cmpS (a b : ByteArray) : Int := if lessS a b = true then -1 else if a = b then 0 else 1
def cmpI (a b : Int) : Int := if a < b then -1 else if b < a then 1 else 0
theorem bytesLess_irrefl (x : List UInt8) : Op.bytesLess x x = false := by
  rw [Go.Proofs.bytesLess_eq]; simp
set_option maxRecDepth 100000 in
theorem nanS_calls (a : ByteArray) (w : World) : Calls Try.prog 125 #[.string a] w fun e w' => e = .returned (.bool false) ∧ w = w' := by
  refine (callsIn_wide (n := 20)).1 ?_
  refine callsIn_of_wp Try.func125 rfl trivial ?_
  simp only [Try.ntmps125, List.size_toArray, List.length_cons, List.length_nil, Nat.reduceAdd, Nat.reduceSub, Array.replicate_succ, Array.replicate_zero, List.push_toArray, List.append_toArray, List.nil_append, List.cons_append]
  gi_wp2
  all_goals go_ret
  all_goals exact ⟨by simp, rfl⟩
set_option maxRecDepth 100000 in
theorem nanI_calls (a : Int) (w : World) : Calls Try.prog 108 #[.int .i64 a] w fun e w' => e = .returned (.bool false) ∧ w = w' := by
  refine (callsIn_wide (n := 20)).1 ?_
  refine callsIn_of_wp Try.func108 rfl trivial ?_
  simp only [Try.ntmps108, List.size_toArray, List.length_cons, List.length_nil, Nat.reduceAdd, Nat.reduceSub, Array.replicate_succ, Array.replicate_zero, List.push_toArray, List.append_toArray, List.nil_append, List.cons_append]
  gi_wp2
  all_goals go_ret
  all_goals exact ⟨by simp, rfl⟩
set_option maxRecDepth 100000 in
theorem cmpS_calls (a b : ByteArray) (w : World) : Calls Try.prog 109 #[.string a, .string b] w fun e w' => e = .returned (.int .i64 (cmpS a b)) ∧ w = w' := by
  refine (callsIn_wide (n := 20)).1 ?_
  refine callsIn_of_wp Try.func109 rfl trivial ?_
  simp only [Try.ntmps109, List.size_toArray, List.length_cons, List.length_nil, Nat.reduceAdd, Nat.reduceSub, Array.replicate_succ, Array.replicate_zero, List.push_toArray, List.append_toArray, List.nil_append, List.cons_append]
  by_cases h2 : a = b
  · subst h2
    have h1 := bytesLess_irrefl a.toList
    gi_wp2_with (gi_at_call 125; refine (callsIn_wide.2 (nanS_calls _ w)).mono ?_; rintro e w1 ⟨rfl, rfl⟩)
    all_goals go_ret
    exact ⟨by simp [cmpS, lessS, h1], rfl⟩
  · have he : (a.toList == b.toList) = false := by rw [toList_beq]; simpa using h2
    have H2 := Lib.hid h2
    clear h2
    cases h1 : Op.bytesLess a.toList b.toList
    all_goals gi_wp2_with (gi_at_call 125; refine (callsIn_wide.2 (nanS_calls _ w)).mono ?_; rintro e w1 ⟨rfl, rfl⟩)
    all_goals go_ret
    all_goals exact ⟨by simp [cmpS, lessS, h1, H2.out], rfl⟩
set_option maxRecDepth 100000 in
theorem cmpI_calls (a b : Int) (w : World) : Calls Try.prog 91 #[.int .i64 a, .int .i64 b] w fun e w' => e = .returned (.int .i64 (cmpI a b)) ∧ w = w' := by
  refine (callsIn_wide (n := 20)).1 ?_
  refine callsIn_of_wp Try.func91 rfl trivial ?_
  simp only [Try.ntmps91, List.size_toArray, List.length_cons, List.length_nil, Nat.reduceAdd, Nat.reduceSub, Array.replicate_succ, Array.replicate_zero, List.push_toArray, List.append_toArray, List.nil_append, List.cons_append]
  by_cases h1 : a < b <;> by_cases h2 : b < a
  all_goals gi_wp2_with (gi_at_call 108; refine (callsIn_wide.2 (nanI_calls _ w)).mono ?_; rintro e w1 ⟨rfl, rfl⟩)
  all_goals (try omega)
  all_goals go_ret
  all_goals refine ⟨?_, rfl⟩
  all_goals unfold cmpI
  all_goals (first | (rw [if_pos (by omega)]; rfl) | (rw [if_neg (by omega), if_pos (by omega)]; rfl) | (rw [if_neg (by omega), if_neg (by omega)]; rfl))
def cmpL : List ByteArray → List ByteArray → Int
  | [], [] => 0
  | [], _ :: _ => -1
  | _ :: _, [] => 1
  | a :: xs, b :: ys => if cmpS a b = 0 then cmpL xs ys else cmpS a b
theorem cmpL_drop (xs ys : List ByteArray) (k : Nat) (hk : k < xs.length) : cmpL (xs.drop k) (ys.drop k) = if k < ys.length then (if cmpS (nth xs k) (nth ys k) = 0 then cmpL (xs.drop (k + 1)) (ys.drop (k + 1)) else cmpS (nth xs k) (nth ys k)) else 1 := by
  rw [List.drop_eq_getElem_cons hk]
  by_cases h : k < ys.length
  · rw [List.drop_eq_getElem_cons h, if_pos h]
    simp [cmpL, nth, hk, h]
  · have e : ys.drop k = [] := List.drop_eq_nil_of_le (by omega)
    rw [if_neg h, e]
    simp [cmpL]
theorem cmpL_end (xs ys : List ByteArray) (k : Nat) (hk : xs.length ≤ k) (hy : k ≤ ys.length) : cmpL (xs.drop k) (ys.drop k) = if k < ys.length then -1 else 0 := by
  rw [List.drop_eq_nil_of_le hk]
  by_cases h : k < ys.length
  · rw [List.drop_eq_getElem_cons h, if_pos h]; simp [cmpL]
  · rw [if_neg h, List.drop_eq_nil_of_le (by omega)]; simp [cmpL]
set_option maxRecDepth 100000 in
set_option maxHeartbeats 2000000 in
theorem cmpL_calls (A1 A2 : Option Addr) (c1 c2 : Nat) (xs ys : List ByteArray) (w : World) (hx : Kd.string.C w A1 xs.length xs) (hy : Kd.string.C w A2 ys.length ys) :
    Calls Try.prog 92 #[.slice A1 xs.length c1, .slice A2 ys.length c2] w fun e w' => e = .returned (.int .i64 (cmpL xs ys)) ∧ w = w' := by
  refine (callsIn_wide (n := 20)).1 ?_
  refine callsIn_of_wp Try.func92 rfl trivial ?_
  simp only [Try.ntmps92, List.size_toArray, List.length_cons, List.length_nil, Nat.reduceAdd, Nat.reduceSub, Array.replicate_succ, Array.replicate_zero, List.push_toArray, List.append_toArray, List.nil_append, List.cons_append]
  have hmax := Kd.C_max hx
  have hmax2 := Kd.C_max hy
  have HX := Lib.hid hx
  have HY := Lib.hid hy
  clear hx hy
  gi_wp2_with fail
  gi_loopw [11] (fun i wr => ∃ (k : Nat), k ≤ xs.length ∧ i = .int .i64 k ∧ Aside0 (k ≤ ys.length ∧ cmpL (xs.drop k) (ys.drop k) = cmpL xs ys) ∧ Aside0 (w = wr)) (fun i _ => xs.length - (intOf i).toNat)
  case atStart => exact ⟨0, Nat.zero_le _, rfl, ⟨by simp⟩, ⟨rfl⟩⟩
  case round =>
    obtain ⟨k, hk, rfl, hn, ⟨rfl⟩⟩ := hrel
    by_cases hlt : k < xs.length
    · obtain ⟨ad, ea, hx⟩ := at_s HX.out k hlt
      subst ea
      have hd := cmpL_drop xs ys k hlt
      by_cases hly : k < ys.length
      · obtain ⟨ad2, ea, hy⟩ := at_s HY.out k hly
        subst ea
        rw [if_pos hly] at hd
        have HD := Lib.hid hd
        clear hd
        by_cases hc : cmpS (nth xs k) (nth ys k) = 0
        · have HC := Lib.hid hc
          gi_wp2_with (gi_at_call 109; refine (callsIn_wide.2 (cmpS_calls _ _ w)).mono ?_; rintro e w1 ⟨rfl, rfl⟩)
          go_roundw
          case rel => exact ⟨k + 1, by omega, by go_num, ⟨by omega, by rw [← hn.out.2, HD.out, if_pos HC.out]⟩, ⟨by first | rfl | trivial⟩⟩
          case measure => simp [intOf]; omega
        · have HC := Lib.hid hc
          gi_wp2_with (gi_at_call 109; refine (callsIn_wide.2 (cmpS_calls _ _ w)).mono ?_; rintro e w1 ⟨rfl, rfl⟩)
          go_ret
          exact ⟨by rw [← hn.out.2, HD.out, if_neg HC.out]; rfl, rfl⟩
      · rw [if_neg hly] at hd
        have HD := Lib.hid hd
        clear hd
        gi_wp2_with fail
        go_ret
        exact ⟨by rw [← hn.out.2, HD.out]; rfl, rfl⟩
    · obtain rfl : k = xs.length := by omega
      have hd := cmpL_end xs ys xs.length (Nat.le_refl _) hn.out.1
      have HD := Lib.hid hd
      clear hd
      by_cases hly : xs.length < ys.length
      · gi_wp2_with fail
        go_ret
        exact ⟨by rw [← hn.out.2, HD.out, if_pos hly]; rfl, rfl⟩
      · gi_wp2_with fail
        go_ret
        exact ⟨by rw [← hn.out.2, HD.out, if_neg hly]; rfl, rfl⟩
def orI (x y : Int) : Int := if x = 0 then y else x
set_option maxRecDepth 100000 in
set_option maxHeartbeats 2000000 in
theorem orI_calls (g : Nat) (x y : Int) (w : World) (h0 : w.cell? ⟨g, 0, none⟩ = some (.int .i64 x)) (h1 : w.cell? ⟨g, 1, none⟩ = some (.int .i64 y)) :
    Calls Try.prog 90 #[.slice (some ⟨g, 0, none⟩) 2 2] w fun e w' => e = .returned (.int .i64 (orI x y)) ∧ w = w' := by
  refine (callsIn_wide (n := 20)).1 ?_
  refine callsIn_of_wp Try.func90 rfl trivial ?_
  simp only [Try.ntmps90, List.size_toArray, List.length_cons, List.length_nil, Nat.reduceAdd, Nat.reduceSub, Array.replicate_succ, Array.replicate_zero, List.push_toArray, List.append_toArray, List.nil_append, List.cons_append]
  gi_wp2_with fail
  gi_loopw [8] (fun i wr => ∃ (k : Nat), k ≤ 2 ∧ i = .int .i64 k ∧ Aside0 ((0 < k → x = 0) ∧ (1 < k → y = 0)) ∧ Aside0 (w = wr)) (fun i _ => 2 - (intOf i).toNat)
  case atStart => exact ⟨0, Nat.zero_le _, rfl, ⟨by simp⟩, ⟨rfl⟩⟩
  case round =>
    obtain ⟨k, hk, rfl, hn, ⟨rfl⟩⟩ := hrel
    obtain rfl | rfl | rfl : k = 0 ∨ k = 1 ∨ k = 2 := by omega
    · by_cases hx : x = 0
      · have hxb : (x != 0) = false := by simp [hx]
        have HX := Lib.hid hx
        clear hx
        gi_wp2_with fail
        go_roundw
        case rel => exact ⟨1, by omega, by go_num, ⟨fun _ => HX.out, by omega⟩, ⟨by first | rfl | trivial⟩⟩
        case measure => simp [intOf]
      · have hxb : (x != 0) = true := by simp [hx]
        have HX := Lib.hid hx
        clear hx
        gi_wp2_with fail
        go_ret
        exact ⟨by unfold orI; rw [if_neg HX.out]; rfl, rfl⟩
    · by_cases hx : y = 0
      · have hxb : (y != 0) = false := by simp [hx]
        have HX := Lib.hid hx
        clear hx
        gi_wp2_with fail
        go_roundw
        case rel => exact ⟨2, by omega, by go_num, ⟨fun _ => hn.out.1 (by omega), fun _ => HX.out⟩, ⟨by first | rfl | trivial⟩⟩
        case measure => simp [intOf]
      · have hxb : (y != 0) = true := by simp [hx]
        have HX := Lib.hid hx
        clear hx
        gi_wp2_with fail
        go_ret
        exact ⟨by unfold orI; rw [if_pos (hn.out.1 (by omega))]; rfl, rfl⟩
    · gi_wp2_with fail
      go_ret
      exact ⟨by unfold orI; rw [if_pos (hn.out.1 (by omega)), hn.out.2 (by omega)]; rfl, rfl⟩
end Go.Proofs.Ytdljclokenoogaa.Hw
end
section
namespace Go.Proofs.Ytdljclokenoogaa.Hw
open Go.RowKit Go.Proofs.Ytdljclokenoogaa.Hp Go.Proofs.YtdljclokenoogaaW.PrintWords Go.Proofs.YtdljclokenoogaaW.PrintLast Go.Proofs.YtdljclokenoogaaW.PrintMore
def appendK (ats : Array TypeId) (ty : TypeId) (args : Array Value) : Sem Value := Builtin.append_ ats ty args
theorem append_k (ats : Array TypeId) (ty : TypeId) (args : Array Value) : Builtin.append_ ats ty args = appendK ats ty args := rfl
theorem run_eqnil (W : World) (a : Option Addr) (n c : Nat) : (binOp .eql 25 (.slice a n c) (.slice none 0 0)).run Try.prog W = .ok (.bool a.isNone) W := by
  have h : ∀ d, (Op.equalIn (d + 1) 25 (.slice a n c) (.slice none 0 0)).run Try.prog W = .ok a.isNone W := fun d => by cases a <;> simp [Op.equalIn, run_underlying (Try.underlying25)]
  have h1 : (Op.equal 25 (.slice a n c) (.slice none 0 0)).run Try.prog W = .ok a.isNone W := h 9999
  simp [binOp, h1]
theorem run_nenil (W : World) (a : Option Addr) (n c : Nat) : (binOp .neq 25 (.slice a n c) (.slice none 0 0)).run Try.prog W = .ok (.bool (!a.isNone)) W := by
  have h : ∀ d, (Op.equalIn (d + 1) 25 (.slice a n c) (.slice none 0 0)).run Try.prog W = .ok a.isNone W := fun d => by cases a <;> simp [Op.equalIn, run_underlying (Try.underlying25)]
  have h1 : (Op.equal 25 (.slice a n c) (.slice none 0 0)).run Try.prog W = .ok a.isNone W := h 9999
  simp [binOp, h1]
theorem encs_len {α : Type} (enc : α → Value) (xs : List α) : (encs enc xs).length = xs.length := by simp [encs]
theorem Row_run {W : World} (base : Nat) {v : Value} {xs ys : List ByteArray} (a : Addr) (cp : Nat) {ok : Nat → Prop} (HO : Row W base ok v xs) (hy : Kd.string.C W (some a) ys.length ys) (hfresh : ∀ k, W.heap.size ≤ k → ok k) (hbase : base ≤ W.heap.size) (hl : xs.length + ys.length ≤ 1100000000000) :
    ∃ v1 w1, (appendK #[25, 25] 25 #[v, .slice (some a) ys.length cp]).run Try.prog W = .ok v1 w1 ∧ Row w1 base ok v1 (xs ++ ys) ∧ W.grownBy w1 v.ownBlock ∧ (v1.ownBlock = v.ownBlock ∨ ∃ b, v1.ownBlock = some b ∧ W.heap.size ≤ b) := by
  have hown := Kd.own_of_R HO.1
  obtain ⟨i, hi, hz⟩ := Option.map_eq_some_iff.1 info_s
  simp only [Prod.mk.injEq] at hz
  have hn : ∀ j u, (encs Value.string ys)[j]? = some u → W.cell? (a.add j) = some u := by
    intro j u hj
    have hj' : j < ys.length := by
      have := (List.getElem?_eq_some_iff.1 hj).1
      rwa [encs_len] at this
    obtain ⟨ad, e, hc⟩ := at_s hy j hj'
    cases e
    rw [hc]
    simp [encs, hj'] at hj
    rw [← hj]
    simp [nth, hj']
  have h1 : ∀ u ∈ encs Value.string ys, u.oneCell' = true := by
    intro u hu
    simp [encs] at hu
    obtain ⟨x, _, rfl⟩ := hu
    rfl
  obtain ⟨v1, w1, hrun, r1, r2, r3, r4⟩ := run_append_own_at (P := Try.prog) (w := W) base 25 25 9 i (.string ⟨#[]⟩) 1 16 Try.underlying25 hi hz.1 hz.2.1 hz.2.2 rfl (by decide) v xs.length _ hown a ys.length cp (encs Value.string ys)
    (by rw [encs_len, Nat.mul_one]) hn h1 (by simp only [maxLen]; omega) (by omega) hbase
  have hat : v1.ownBlock = v.ownBlock ∨ ∃ b, v1.ownBlock = some b ∧ W.heap.size ≤ b := r4.imp id (fun h => ⟨_, h, Nat.le_refl _⟩)
  refine ⟨v1, w1, hrun, ⟨Kd.R_of_own (enc := Value.string) (by rw [List.length_append]; simpa [encs] using r1) (fun k hk => ?_), fun he => r3.2 ⟨HO.2 (List.append_eq_nil_iff.1 he).1, by rw [(List.append_eq_nil_iff.1 he).2]; rfl⟩⟩, r2, hat⟩
  rcases hat with h | ⟨b, h, hb⟩
  · exact HO.1.1 k (h ▸ hk)
  · rw [h] at hk; cases hk; exact hfresh _ hb
end Go.Proofs.Ytdljclokenoogaa.Hw
end
section
namespace Go.Proofs.Ytdljclokenoogaa.Hw
open Go.RowKit
theorem uponIn_plain (F : Fence) (l n : Nat) (P : Program) (o : Oper) (a : Act) (next : Act → World → Prop) (Q : Exit → Act → World → Prop) (r : Result Next) (h : o.uponIn F n P a next Q r) : o.uponIn (F.inRound l) n P a next Q r := by
  cases r with
  | ok x w => cases x <;> exact h
  | halt x w => cases x <;> exact h
theorem wpIn_op_plain (F : Fence) (l n : Nat) (P : Program) (o : Oper) (hro : F.round = none) (hd : ∀ c, o.op ≠ .defer c) (a : Act) (w : World) (next : Act → World → Prop) (Q : Exit → Act → World → Prop) (h : o.wpIn F n P a w next Q) : o.wpIn (F.inRound l) n P a w next Q := by
  refine ⟨h.1, ?_⟩
  have h2 := h.2
  rw [hro, Oper.semAt_eq none _ _ hd] at h2
  rw [Fence.inRound_round, Oper.semAt_eq (some l) _ _ hd]
  exact uponIn_plain F l n P o a next Q _ h2
theorem wpAny_plain (F : Fence) (l n : Nat) (P : Program) (md : Region.Mode) (ops : Array Oper) (hro : F.round = none) (hd : ∀ o ∈ ops.toList, ∀ c, o.op ≠ .defer c) (Q : Exit → Act → World → Prop) :
    ∀ (fuel : Nat) (listed : Array Bool) (a : Act) (w : World), wpAnyIn F n P md ops Q fuel listed a w → wpAnyIn (F.inRound l) n P md ops Q fuel listed a w := by
  intro fuel
  induction fuel with
  | zero => intro listed a w h; exact h
  | succ fuel ih =>
    intro listed a w h
    refine ⟨h.1, fun i hi => ?_⟩
    have h2 := wpOpIn_mono (fun a w h => ih _ a w h) (h.2 i hi)
    unfold wpOpIn at h2 ⊢
    cases ho : ops[i]? with
    | none => simp only [ho] at h2 ⊢; exact h2
    | some o =>
      simp only [ho] at h2 ⊢
      split at h2
      · rename_i hw
        rw [if_pos hw]
        exact wpIn_op_plain F l n P o hro (hd o (by rw [← Array.getElem?_toList] at ho; exact List.mem_of_getElem? ho)) a w _ Q h2
      · rename_i hw
        rw [if_neg hw]
        exact h2
theorem region_plain {F : Fence} {l n : Nat} {P : Program} {ops : Array Oper} {Q : Exit → Act → World → Prop} {id : Nat} {a : Act} {w : World} (hm : P.follows .mixedOrders = true) (hro : F.round = none) (hd : (ops.toList.all fun o => match o.op with | .defer _ => false | _ => true) = true)
    (h : wpAnyIn F n P .any ops Q ops.size (Array.replicate ops.size false) a w.drew) : (Code.region id ops true).wpIn (F.inRound l) n P Q a w := by
  refine wpIn_region_any hm (wpAny_plain F l n P .any ops hro (fun o ho c e => ?_) Q _ _ _ _ h)
  have := List.all_eq_true.1 hd o ho
  rw [e] at this
  cases this
end Go.Proofs.Ytdljclokenoogaa.Hw
end
section
namespace Go.Proofs.Ytdljclokenoogaa.Hw
open Go.RowKit Go.Proofs.Ytdljclokenoogaa.Hp Go.Proofs.YtdljclokenoogaaW.PrintWords Go.Proofs.YtdljclokenoogaaW.PrintLast Go.Proofs.YtdljclokenoogaaW.PrintMore
attribute [local go_sem] Oper.semAt_some
attribute [local go_sem high] run_eqnil run_nenil
attribute [local go_sem ↓] append_k
def ringLess (best r : List ByteArray) : Bool := best.isEmpty || decide (orI (cmpI r.length best.length) (cmpL r best) < 0)
def ringStep (up : ByteArray → List ByteArray) (N : Nat) (c : ByteArray) (best : List ByteArray) (p : ByteArray) : List ByteArray :=
  if (shortF up N c p).isEmpty then best else if ringLess best (c :: (shortF up N c p).dropLast) then c :: (shortF up N c p).dropLast else best
def ringOf (l : List S61) : List ByteArray := (names l).foldl (fun b c => (ups l c).foldl (ringStep (ups l) l.length c) b) []
structure RgSt (w : World) (A0 : Option Addr) (n c0 B bg : Nat) (m : List (ByteArray × Value)) (v : Value) (best : List ByteArray) (W : World) : Prop where
  hB : Below w.heap.size w W
  g0 : W.cell? ⟨bg, 0, none⟩ = some (.slice A0 n c0)
  g1 : W.cell? ⟨bg, 1, none⟩ = some (.map (some B))
  o : W.cell? ⟨bg + 1, 0, none⟩ = some v
  f : W.frozen? ⟨bg + 1, 0, none⟩ = false
  M : IsMap W B m
  row : Row W (bg + 2) (fun _ => True) v best
  l1 : w.heap.size ≤ B
  l2 : B < bg
section
variable {w : World} {A0 : Option Addr} {n c0 B bg : Nat} {m : List (ByteArray × Value)} {v : Value} {best : List ByteArray}
theorem RgSt.lt {W : World} (h : RgSt w A0 n c0 B bg m v best W) : bg + 1 < W.heap.size := World.block_lt_of_cell? _ _ h.o
theorem RgSt.same {W W' : World} (h : RgSt w A0 n c0 B bg m v best W) (hb : Below (bg + 2) W W') (hr : ∀ k, v.ownBlock = some k → W'.heap[k]? = W.heap[k]?) : RgSt w A0 n c0 B bg m v best W' := by
  have h1 := h.l1; have h2 := h.l2
  exact ⟨h.hB.trans (hb.mono (by omega)), (hb.cell (p := ⟨bg, 0, none⟩) (by dsimp only; omega)).trans h.g0, (hb.cell (p := ⟨bg, 1, none⟩) (by dsimp only; omega)).trans h.g1, (hb.cell (p := ⟨bg + 1, 0, none⟩) (by dsimp only; omega)).trans h.o,
    (hb.frozen (p := ⟨bg + 1, 0, none⟩) (by dsimp only; omega)).trans h.f, h.M.below hb (by omega), ⟨Kd.R_of_own (own_move (Kd.own_of_R h.row.1) hr) (fun _ _ => trivial), h.row.2⟩, h1, h2⟩
theorem RgSt.later {W W' : World} (h : RgSt w A0 n c0 B bg m v best W) (hb : Below W.heap.size W W') : RgSt w A0 n c0 B bg m v best W' :=
  h.same (hb.mono (by have := h.lt; omega)) (fun k hk => hb.block k (h.row.blocks k hk).2.2.1)
theorem RgSt.alloc {W : World} (h : RgSt w A0 n c0 B bg m v best W) (o : Obj) : RgSt w A0 n c0 B bg m v best (W.alloc o) := h.later ((Below.refl _ _).alloc (Nat.le_refl _) _)
theorem RgSt.oth {W W' : World} {H : Nat} (h : RgSt w A0 n c0 B bg m v best W) (hb : Oth H W W') (hH : bg + 2 ≤ H) : RgSt w A0 n c0 B bg m v best W' :=
  h.same (hb.below.mono hH) (fun k hk => by obtain ⟨_, _, _, cells, hc⟩ := h.row.blocks k hk; exact hb.block k (.inr ⟨_, hc, rfl⟩))
theorem RgSt.put {W : World} (h : RgSt w A0 n c0 B bg m v best W) {v' : Value} {best' : List ByteArray} (hr : Row W (bg + 2) (fun _ => True) v' best') : RgSt w A0 n c0 B bg m v' best' (W.setCell ⟨bg + 1, 0, none⟩ v') := by
  have h1 := h.l1; have h2 := h.l2
  refine ⟨h.hB.setCell (p := ⟨bg + 1, 0, none⟩) (by dsimp only; omega) _, (cell_set_ne _ (by dsimp only; omega)).trans h.g0, (cell_set_ne _ (by dsimp only; omega)).trans h.g1, cell_set h.o, by rw [World.frozen?_setCell]; exact h.f, h.M.setCell _ _, hr.setCell _ (.inr (by dsimp only; omega)) _, h1, h2⟩
end
set_option maxRecDepth 100000 in
set_option maxHeartbeats 8000000 in
theorem ring_calls (A0 : Option Addr) (c0 : Nat) (l : List S61) (w : World) (hr : k61.C w A0 l.length l) (hc : l.length ≤ c0) (hl : l.length ≤ 1000) (hup : ∀ x ∈ l, x.f3.length ≤ 1100000000000) :
    Calls Try.prog 45 #[.slice A0 l.length c0] w fun e w' => ∃ v, e = .returned (.tuple #[v, .bool (!(ringOf l).isEmpty)]) ∧ Row w' w.heap.size (fun _ => True) v (ringOf l) ∧ Below w.heap.size w w' := by
  refine (callsIn_wide (n := 20)).1 ?_
  refine callsIn_of_wp_marks Try.func45 rfl trivial ?_
  simp only [Try.ntmps45, List.size_toArray, List.length_cons, List.length_nil, Nat.reduceAdd, Nat.reduceSub, Array.replicate_succ, Array.replicate_zero, List.push_toArray, List.append_toArray, List.nil_append, List.cons_append]
  have HR := Lib.hid hr
  clear hr
  gi_wp2_with (gi_at_call 63; refine (callsIn_wide.2 (of_calls _ _ _ _ HR.out hc)).mono ?_; rintro e w1 ⟨B, m, rfl, hB, hM, hK, hb1⟩; have HM := Lib.hid hK; have hBlt := hM.lt; clear hK)
  have hS : RgSt w A0 l.length c0 B w1.heap.size m (.slice none 0 0) [] ((w1.alloc (.cells #[.slice A0 l.length c0, .map (some B)] 99)).alloc (.cells #[.slice none 0 0] 25)) := by
    have h1 := cell_new (w1.alloc (.cells #[.slice A0 l.length c0, .map (some B)] 99)) #[.slice none 0 0] 25 0
    have h2 := frozen_new (w1.alloc (.cells #[.slice A0 l.length c0, .map (some B)] 99)) #[.slice none 0 0] 25 0
    rw [World.size_alloc] at h1 h2
    have hsz := hb1.size
    exact ⟨(hb1.alloc hsz _).alloc (by simp; omega) _, cell_alloc (cell_new _ _ _ _) _, cell_alloc (cell_new _ _ _ _) _, h1, h2, (hM.alloc _).alloc _, Row.nil _ _ _, hB, hBlt⟩
  have HS := Lib.hid hS
  clear hS hM
  refine wpIn_loop_ghost_k (fun gj a' W => ∃ (u0 u1 u6 u7 u8 u9 u10 u11 u12 u16 u17 u18 u19 u20 u21 u22 u23 u24 u25 u26 u27 u28 u29 u30 u31 u32 u33 u34 u35 u36 u37 u38 u39 u40 u41 u42 u43 u44 u45 u46 u47 u48 u49 u50 u51 u52 u53 u54 u55 u56 u57 u58 u59 : Value) (ds : List Deferred) (v : Value) (j : Nat), Aside0 (RgSt w A0 l.length c0 B w1.heap.size m v ((names (l.take j)).foldl (fun b c => (ups l c).foldl (ringStep (ups l) l.length c) b) []) W ∧ Marks w.heap.size ds W) ∧ j ≤ l.length ∧ Aside0 (gj = l.length - j) ∧
    a' = { tmps := #[u0, u1, .slice none 0 0, .bool false, .pointer (some ⟨w1.heap.size, 0, none⟩), .pointer (some ⟨w1.heap.size + 1, 0, none⟩), u6, u7, u8, u9, u10, u11, u12, .slice A0 l.length c0, .int .i64 l.length, .int .i64 j, u16, u17, u18, u19, u20, u21, u22, u23, u24, u25, u26, u27, u28, u29, u30, u31, u32, u33, u34, u35, u36, u37, u38, u39, u40, u41, u42, u43, u44, u45, u46, u47, u48, u49, u50, u51, u52, u53, u54, u55, u56, u57, u58, u59], defers := ds }) l.length ?_ ?_
  · repeat apply Exists.intro
    exact ⟨⟨HS.out, Marks.nil _ _⟩, Nat.zero_le _, ⟨rfl⟩, rfl⟩
  · rintro gj a' W ⟨u0, u1, u6, u7, u8, u9, u10, u11, u12, u16, u17, u18, u19, u20, u21, u22, u23, u24, u25, u26, u27, u28, u29, u30, u31, u32, u33, u34, u35, u36, u37, u38, u39, u40, u41, u42, u43, u44, u45, u46, u47, u48, u49, u50, u51, u52, u53, u54, u55, u56, u57, u58, u59, ds, v, j, hrel, hj, hgj, rfl⟩ J K hJ hK
    have HJ := Lib.hid hJ
    clear hJ
    have hS := hrel.out.1
    by_cases hlt : j < l.length
    · obtain ⟨ad, A2, c2, A3, c3, A4, c4, A5, c5, A6, c6, ea, hx0, hx1, hx2, hx3, hx4, hx5, hx6, _⟩ := at_T61 (Kd.C_below HR.out hS.hB) (j : Int) (by omega) (by omega)
      subst ea
      rw [Int.toNat_natCast] at hx0 hx1 hx2 hx3 hx4 hx5 hx6
      have hg0 := hS.g0
      have hg1 := hS.g1
      have hl1 := hS.l1
      have hl2 := hS.l2
      have hl3 := hS.lt
      have hl0 : w1.heap.size < W.heap.size := by omega
      obtain ⟨y, hy⟩ : ∃ y, rd_T61 l (j : Int) = y := ⟨_, rfl⟩
      rw [hy] at hx0 hx1 hx2 hx3 hx4 hx5 hx6
      have HY := Lib.hid hy
      clear hy
      gi_wp2_with (gi_at_call 57; refine (callsIn_wide.2 (parents_calls _ _ _ _)).mono ?_; rintro e w2 ⟨rfl, rfl⟩)
      clear hg0 hg1 hx0 hx1 hx2 hx3 hx4 hx5 hx6
      have hBW := hS.hB
      have hsz := hBW.size
      have hS3 := ((hS.alloc (.cells #[.string y.f0, .bool y.f1, .slice A2 y.f2.length c2, .slice A3 y.f3.length c3, .slice A4 y.f4.length c4, .slice A5 y.f5.length c5, .slice A6 y.f6.length c6] 61)).alloc (.cells #[.slice (some ad) l.length c0, .map (some B)] 99)).alloc (.cells #[.string y.f0] 9)
      have hAt := AtRange.new (W := W.alloc (.cells #[.string y.f0, .bool y.f1, .slice A2 y.f2.length c2, .slice A3 y.f3.length c3, .slice A4 y.f4.length c4, .slice A5 y.f5.length c5, .slice A6 y.f6.length c6] 61)) y.f0 HR.out hc HM.out (hBW.alloc hsz _) (hS.M.alloc _)
      rw [World.size_alloc] at hAt
      obtain ⟨WL, hWL⟩ : ∃ WL, (((W.alloc (.cells #[.string y.f0, .bool y.f1, .slice A2 y.f2.length c2, .slice A3 y.f3.length c3, .slice A4 y.f4.length c4, .slice A5 y.f5.length c5, .slice A6 y.f6.length c6] 61)).alloc (.cells #[.slice (some ad) l.length c0, .map (some B)] 99)).alloc (.cells #[.string y.f0] 9)) = WL := ⟨_, rfl⟩
      have hWs : WL.heap.size = W.heap.size + 1 + 1 + 1 := by rw [← hWL]; simp
      have hWc : WL.cell? ⟨W.heap.size, 0, none⟩ = some (.string y.f0) := by rw [← hWL]; exact cell_alloc (cell_alloc (cell_new _ _ _ _) _) _
      have hMkL : Marks w.heap.size ds WL := by rw [← hWL]; exact ((hrel.out.2.alloc _).alloc _).alloc _
      rw [hWL] at hAt hS3 ⊢
      clear hWL
      obtain ⟨b0, hb0⟩ : ∃ b0, (names (l.take j)).foldl (fun b c => (ups l c).foldl (ringStep (ups l) l.length c) b) [] = b0 := ⟨_, rfl⟩
      have hnext : Hid ((names (l.take (j + 1))).foldl (fun b c => (ups l c).foldl (ringStep (ups l) l.length c) b) [] = (ups l y.f0).foldl (ringStep (ups l) l.length y.f0) b0) := by
        show _ = _
        rw [names_take l j hlt, List.foldl_append, hb0, HY.out]
        rfl
      rw [hb0] at hS3
      have HB0 := Lib.hid hb0
      clear hb0 hS
      refine rangeP hAt (by omega) rfl rfl
        (fun pre Wb => ∃ (v2 : Value), Aside0 (RgSt w (some ad) l.length c0 B w1.heap.size m v2 ((pre.map (·.1)).foldl (ringStep (ups l) l.length y.f0) b0) Wb ∧ Wb.cell? ⟨W.heap.size, 0, none⟩ = some (.string y.f0) ∧ DefKeep WL.heap.size WL Wb))
        (fun _ _ _ => False) ?_ (fun _ _ _ _ h _ => h) ?_
        (fun x => { tmps := #[u0, u1, .slice none 0 0, .bool false, .pointer (some ⟨w1.heap.size, 0, none⟩), .pointer (some ⟨w1.heap.size + 1, 0, none⟩), u6, .pointer (some ⟨W.heap.size, 0, none⟩), .string x.1, u9, u10, u11, u12, .slice (some ad) l.length c0, .int .i64 l.length, .int .i64 j, .bool true, .pointer (some (ad.add (j * 7))), .agg #[.string y.f0, .bool y.f1, .slice A2 y.f2.length c2, .slice A3 y.f3.length c3, .slice A4 y.f4.length c4, .slice A5 y.f5.length c5, .slice A6 y.f6.length c6], .agg #[.slice (some ad) l.length c0, .map (some B)], .pointer (some ⟨W.heap.size, 0, none⟩), .string y.f0, .func (.func 98) #[] #[.pointer (some ⟨W.heap.size + 1, 0, none⟩), .pointer (some ⟨W.heap.size + 1 + 1, 0, none⟩)], .string x.1, u24, u25, u26, u27, u28, u29, u30, u31, u32, u33, u34, u35, u36, u37, u38, u39, u40, u41, u42, u43, u44, u45, u46, u47, u48, u49, u50, u51, u52, u53, u54, u55, u56, u57, u58, u59], defers := [] }) ?_ ?_ ?_ ?_
      · rintro pre Wb Wc ⟨v2, ⟨h1, h2, h3⟩⟩ hb
        exact ⟨v2, ⟨h1.oth hb (by omega), hb.cell h2, h3.below hb.below⟩⟩
      · exact ⟨_, ⟨hS3, hWc, DefKeep.refl _ _⟩⟩
      · intro L x Wb K' hK'
        gi_wp2_with fail
        exact hK'
      · rintro L pre x Wb hszb - ⟨v2, hI⟩
        have hSb := hI.out.1
        have hg0 := hSb.g0
        have hg1 := hSb.g1
        have hcl := hI.out.2.1
        gi_wp2_with fail
        refine (CallsIn.inRound L (callsIn_wide.2 (shortest_calls _ _ _ l m _ _ _ (Kd.C_below HR.out hSb.hB) hc hl hup hSb.M HM.out))).mono ?_
        rintro e w3 ⟨v3, rfl, hR3, hb3⟩
        have hS4 := hSb.later hb3
        have hlc := World.block_lt_of_cell? _ _ hcl
        have hcl3 := (hb3.cell (p := ⟨W.heap.size, 0, none⟩) hlc).trans hcl
        have hdk3 : DefKeep WL.heap.size WL w3 := hI.out.2.2.below (hb3.mono hszb)
        have hkf3 : KeepsFrom WL.heap.size Wb w3 := KeepsFrom.ofBelow hb3
        have hkk3 : Keeps (fun k => k < w.heap.size ∨ k = B ∨ k = W.heap.size + 1 ∨ k = W.heap.size + 1 + 1) Wb w3 := Below.keeps hb3 (fun k hk => by have := hAt.klt k hk; omega)
        have hstep : Hid (∀ r, shortF (ups l) l.length y.f0 x.1 = r → ((pre ++ [x]).map (·.1)).foldl (ringStep (ups l) l.length y.f0) b0 = (fun best => if r.isEmpty then best else if ringLess best (y.f0 :: r.dropLast) then y.f0 :: r.dropLast else best) ((pre.map (·.1)).foldl (ringStep (ups l) l.length y.f0) b0)) := by
          show ∀ r, _
          rintro r rfl
          rw [List.map_append, List.foldl_append]
          rfl
        obtain ⟨bp, hbp⟩ : ∃ bp, (pre.map (·.1)).foldl (ringStep (ups l) l.length y.f0) b0 = bp := ⟨_, rfl⟩
        have hstep2 : Hid (∀ r, shortF (ups l) l.length y.f0 x.1 = r → ((pre ++ [x]).map (·.1)).foldl (ringStep (ups l) l.length y.f0) b0 = (if r.isEmpty then bp else if ringLess bp (y.f0 :: r.dropLast) then y.f0 :: r.dropLast else bp)) := by
          show ∀ r, _
          intro r hr
          rw [hstep.out r hr, hbp]
        rw [hbp] at hS4
        clear hstep hbp hg0 hg1 hcl
        obtain ⟨s, hs⟩ : ∃ s, shortF (ups l) l.length y.f0 x.1 = s := ⟨_, rfl⟩
        have hst := hstep2.out s hs
        rw [hs] at hR3
        have hsl := shortF_len (ups l) l.length y.f0 x.1
        rw [hs] at hsl
        have HST := Lib.hid hst
        clear hstep2 hs hst
        rcases s with _ | ⟨s0, st⟩
        · obtain rfl := hR3.2 rfl
          gi_wp2_with fail
          exact ⟨hkf3, hkk3, v2, ⟨by rw [HST.out]; exact hS4, hcl3, hdk3⟩⟩
        · obtain ⟨gs, cs, rfl⟩ := hR3.form (by simp)
          simp only [List.length_cons] at hR3
          have hfol : (Try.prog).follows .mixedOrders = true := by kernel_rfl
          have hlt4 := hS4.lt
          have hb34 : Below w3.heap.size w3 (w3.alloc (.cells #[.string y.f0] 9)).drew := ((Below.refl w3.heap.size w3).alloc (Nat.le_refl _) _).drew
          have hdl : (s0 :: st).dropLast.length = st.length := by simp
          obtain ⟨A9, c9, e9, hc9, hC9⟩ := hR3.reads
          cases e9
          simp only [List.length_cons] at hc9
          have hc10 : st.length ≤ cs := by omega
          simp only [List.length_cons] at hsl
          have hst1 : st.length ≤ 1000 := by omega
          have hwr : IntKind.i64.wrap (st.length : Int) = st.length := Go.IntWalk.i64_in _ ⟨by omega, by omega⟩
          have hy9 : Kd.string.C (w3.alloc (.cells #[.string y.f0] 9)).drew (some ⟨gs, 0, none⟩) (s0 :: st).dropLast.length (s0 :: st).dropLast := by
            rw [List.dropLast_eq_take]
            exact Kd.C_below (Kd.C_take hC9 (by simp)) hb34
          obtain ⟨v4, w4, happ, hR4, hG4, _⟩ := Row_run (W := (w3.alloc (.cells #[.string y.f0] 9)).drew) (w1.heap.size + 2) ⟨gs, 0, none⟩ cs ((Row.lit w3 (w1.heap.size + 2) (fun _ => True) y.f0 (by omega) trivial).later (Below.refl _ _).drew) hy9 (fun _ _ => trivial) (by simp; omega) (by simp; omega)
          rw [hdl] at happ
          obtain ⟨r, hrr⟩ : ∃ r, y.f0 :: (s0 :: st).dropLast = r := ⟨_, rfl⟩
          rw [List.singleton_append, hrr] at hR4
          have hB4 : Below w3.heap.size w3 w4 := hb34.grown hG4 (by simp) (fun k e => by cases e; exact Nat.le_refl _)
          have hS5 := hS4.later hB4
          have hcl5 := (hB4.cell (p := ⟨W.heap.size, 0, none⟩) (World.block_lt_of_cell? _ _ hcl3)).trans hcl3
          obtain ⟨g4, c4', rfl⟩ := hR4.form (by rw [← hrr]; simp)
          have HS4 := Lib.hid hS4
          clear hS4 hG4 hb34 hy9 hC9
          gi_wp2_with fail
          have hpost : Hid (∀ W5, Below w4.heap.size w4 W5 → RgSt w (some ad) l.length c0 B w1.heap.size m v2 bp W5 ∧ KeepsFrom WL.heap.size Wb W5 ∧ Keeps (fun k => k < w.heap.size ∨ k = B ∨ k = W.heap.size + 1 ∨ k = W.heap.size + 1 + 1) Wb W5 ∧ W5.cell? ⟨W.heap.size, 0, none⟩ = some (.string y.f0) ∧ DefKeep WL.heap.size WL W5) := by
            show ∀ W5, _
            intro W5 h5
            have h35 : Below w3.heap.size w3 W5 := hB4.trans (h5.mono hB4.size)
            exact ⟨HS4.out.later h35, KeepsFrom.below hkf3 h35, hkk3.trans (Below.keeps h35 (fun k hk => by have := hAt.klt k hk; have := hkf3.size; omega)), (h35.cell (p := ⟨W.heap.size, 0, none⟩) (World.block_lt_of_cell? _ _ hcl3)).trans hcl3, hdk3.below (h35.mono (by have := hkf3.size; omega))⟩
          have hkeep : Hid (∀ W5, Below w4.heap.size w4 W5 → ringLess bp r = false → KeepsFrom WL.heap.size Wb W5 ∧ Keeps (fun k => k < w.heap.size ∨ k = B ∨ k = W.heap.size + 1 ∨ k = W.heap.size + 1 + 1) Wb W5 ∧ ∃ (v2 : Value), Aside0 (RgSt w (some ad) l.length c0 B w1.heap.size m v2 (((pre ++ [x]).map (·.1)).foldl (ringStep (ups l) l.length y.f0) b0) W5 ∧ W5.cell? ⟨W.heap.size, 0, none⟩ = some (.string y.f0) ∧ DefKeep WL.heap.size WL W5)) := by
            show ∀ W5, _
            intro W5 h5 hless
            obtain ⟨p1, p2, p3, p4, p5⟩ := hpost.out W5 h5
            refine ⟨p2, p3, v2, ⟨?_, p4, p5⟩⟩
            rw [HST.out, hrr, hless]
            exact p1
          have hput : Hid (∀ W5, Below w4.heap.size (w4.setCell ⟨w1.heap.size + 1, 0, none⟩ (.slice (some ⟨g4, 0, none⟩) r.length c4')) W5 → ringLess bp r = true → KeepsFrom WL.heap.size Wb W5 ∧ Keeps (fun k => k < w.heap.size ∨ k = B ∨ k = W.heap.size + 1 ∨ k = W.heap.size + 1 + 1) Wb W5 ∧ ∃ (v2 : Value), Aside0 (RgSt w (some ad) l.length c0 B w1.heap.size m v2 (((pre ++ [x]).map (·.1)).foldl (ringStep (ups l) l.length y.f0) b0) W5 ∧ W5.cell? ⟨W.heap.size, 0, none⟩ = some (.string y.f0) ∧ DefKeep WL.heap.size WL W5)) := by
            show ∀ W5, _
            intro W5 h5 hless
            obtain ⟨p1, p2, p3, p4, p5⟩ := hpost.out w4 (Below.refl _ _)
            have hs4 : (w4.setCell ⟨w1.heap.size + 1, 0, none⟩ (.slice (some ⟨g4, 0, none⟩) r.length c4')).heap.size = w4.heap.size := by simp
            have hsz4 := hB4.size
            have hsz5 := hkf3.size
            have h5' : Below (w4.setCell ⟨w1.heap.size + 1, 0, none⟩ (.slice (some ⟨g4, 0, none⟩) r.length c4')).heap.size (w4.setCell ⟨w1.heap.size + 1, 0, none⟩ (.slice (some ⟨g4, 0, none⟩) r.length c4')) W5 := by rw [hs4]; exact h5
            refine ⟨KeepsFrom.below (KeepsFrom.setCell p2 _ _) h5', (p3.setCell (by dsimp only; omega) _).trans (Below.keeps h5 (fun k hk => by have := hAt.klt k hk; omega)), .slice (some ⟨g4, 0, none⟩) r.length c4', ⟨?_, (h5.cell (p := ⟨W.heap.size, 0, none⟩) (by dsimp only; omega)).trans ((cell_set_ne _ (by dsimp only; omega)).trans p4), (p5.setCell _ _).below (h5.mono (by omega))⟩⟩
            rw [HST.out, hrr, hless]
            exact (p1.put hR4).later h5'
          obtain ⟨Ar, cr, er, _, hCr0⟩ := hR4.reads
          cases er
          replace hCr0 : Kd.string.C w4.drew (some ⟨g4, 0, none⟩) r.length r := Kd.C_below hCr0 (Below.refl _ _).drew
          have hCb0 : ∀ g c, v2 = .slice (some ⟨g, 0, none⟩) bp.length c → Kd.string.C w4.drew (some ⟨g, 0, none⟩) bp.length bp := by
            intro g c e
            obtain ⟨A, c', e', _, hC⟩ := hS5.row.reads
            rw [e] at e'
            cases e'
            exact Kd.C_below hC (Below.refl _ _).drew
          refine region_plain (F := Fence.wide) hfol rfl (by kernel_rfl) ?_
          refine wpAnyIn_take (i := 0) (v := ?_) rfl rfl (by kernel_rfl) (by kernel_rfl) (by kernel_rfl) (fun _ _ _ h => h) ⟨Or.inl ⟨by kernel_rfl, ?_⟩, fun _ => rfl⟩ ?_
          rotate_left 1
          · intro _; go_simp <;> (with_reducible rfl)
          refine wpAnyIn_take (i := 3) (v := ?_) rfl rfl (by kernel_rfl) (by kernel_rfl) (by kernel_rfl) (fun _ _ _ h => h) ⟨Or.inl ⟨by kernel_rfl, ?_⟩, fun _ => rfl⟩ ?_
          rotate_left 1
          · intro _; go_simp <;> (with_reducible rfl)
          refine wpAnyIn_take (i := 4) (v := ?_) rfl rfl (by kernel_rfl) (by kernel_rfl) (by kernel_rfl) (fun _ _ _ h => h) ⟨Or.inl ⟨by kernel_rfl, ?_⟩, fun _ => rfl⟩ ?_
          rotate_left 1
          · intro _; go_simp <;> (with_reducible rfl)
          refine wpAnyIn_take (i := 5) (v := ?_) rfl rfl (by kernel_rfl) (by kernel_rfl) (by kernel_rfl) (fun _ _ _ h => h) ⟨Or.inl ⟨by kernel_rfl, ?_⟩, fun _ => rfl⟩ ?_
          rotate_left 1
          · intro _; go_simp <;> (with_reducible rfl)
          refine wpAnyIn_take (i := 6) (v := ?_) rfl rfl (by kernel_rfl) (by kernel_rfl) (by kernel_rfl) (fun _ _ _ h => h) ⟨Or.inl ⟨by kernel_rfl, ?_⟩, fun _ => rfl⟩ ?_
          rotate_left 1
          · intro _; go_simp <;> (with_reducible rfl)
          refine wpAnyIn_take (i := 7) (v := ?_) rfl rfl (by kernel_rfl) (by kernel_rfl) (by kernel_rfl) (fun _ _ _ h => h) ⟨Or.inl ⟨by kernel_rfl, ?_⟩, fun _ => rfl⟩ ?_
          rotate_left 1
          · intro _; go_simp <;> (with_reducible rfl)
          refine wpAnyIn_ready (rs := [1]) (by kernel_rfl) (by simp) ?_
          refine AllReadyIn.cons rfl (fun K hK => ?_) ?_
          · go_simp
            refine hK _ _ ?_
            clear hK K
            refine wpAnyIn_ready (rs := [2]) (by kernel_rfl) (by simp) ?_
            refine AllReadyIn.cons rfl (fun K hK => ?_) ?_
            · go_simp
              refine hK _ _ ?_
              clear hK K
              refine wpAnyIn_ready (rs := [8]) (by kernel_rfl) (by simp) ?_
              refine AllReadyIn.cons rfl (fun K hK => ?_) ?_
              · go_simp
                refine hK _ _ ?_
                clear hK K
                refine wpAnyIn_take (i := 9) (v := ?_) rfl rfl (by kernel_rfl) (by kernel_rfl) (by kernel_rfl) (fun _ _ _ h => h) ⟨Or.inl ⟨by kernel_rfl, ?_⟩, fun _ => rfl⟩ ?_
                rotate_left 1
                · intro _; go_simp <;> (with_reducible rfl)
                refine wpAnyIn_done (by kernel_rfl) ?_ _
                have ho5 := hS5.o
                have hf5 := hS5.f
                have hlt5 := hS5.lt
                have HS5 := Lib.hid hS5.row
                clear hAt hWs hWc hMkL HST hI hSb HS4 hR3 hR4 hb3 hcl3 hdk3 hkf3 hkk3 hpost hB4 hcl5 happ hsl hst1 hwr hc9 hc10 hdl hrel hnext HB0 HY hBW hsz hS3 hl0 hl1 hl2 hl3 hlt4 hj hgj HS hb1 hB hBlt HM HR hup hS5 HJ hK hszb hlc
                rcases bp with _ | ⟨b1, bt⟩
                · obtain rfl := HS5.out.2 rfl
                  gi_wp2_with fail
                  refine region_plain (F := Fence.wide) hfol rfl (by kernel_rfl) ?_
                  refine wpAnyIn_ready (rs := [0]) (by kernel_rfl) (by simp) ?_
                  refine AllReadyIn.cons rfl (fun K hK => ?_) ?_
                  · go_simp
                    refine hK _ _ ?_
                    clear hK K
                    refine wpAnyIn_take (i := 1) (v := ?_) rfl rfl (by kernel_rfl) (by kernel_rfl) (by kernel_rfl) (fun _ _ _ h => h) ⟨Or.inl ⟨by kernel_rfl, ?_⟩, fun _ => rfl⟩ ?_
                    rotate_left 1
                    · intro _; go_simp <;> (with_reducible rfl)
                    refine wpAnyIn_take (i := 2) (v := ?_) rfl rfl (by kernel_rfl) (by kernel_rfl) (by kernel_rfl) (fun _ _ _ h => h) ⟨Or.inl ⟨by kernel_rfl, ?_⟩, fun _ => rfl⟩ ?_
                    rotate_left 1
                    · intro _; go_simp <;> (with_reducible rfl)
                    refine wpAnyIn_take (i := 3) (v := undef) rfl rfl (by kernel_rfl) (by kernel_rfl) (by kernel_rfl) (fun _ _ _ h => h) ⟨Or.inr ⟨by kernel_rfl, rfl⟩, fun _ => rfl⟩ ?_
                    refine wpAnyIn_take (i := 4) (v := undef) rfl rfl (by kernel_rfl) (by kernel_rfl) (by kernel_rfl) (fun _ _ _ h => h) ⟨Or.inr ⟨by kernel_rfl, rfl⟩, fun _ => rfl⟩ ?_
                    refine wpAnyIn_take (i := 5) (v := undef) rfl rfl (by kernel_rfl) (by kernel_rfl) (by kernel_rfl) (fun _ _ _ h => h) ⟨Or.inr ⟨by kernel_rfl, rfl⟩, fun _ => rfl⟩ ?_
                    refine wpAnyIn_take (i := 6) (v := undef) rfl rfl (by kernel_rfl) (by kernel_rfl) (by kernel_rfl) (fun _ _ _ h => h) ⟨Or.inr ⟨by kernel_rfl, rfl⟩, fun _ => rfl⟩ ?_
                    refine wpAnyIn_take (i := 8) (v := undef) rfl rfl (by kernel_rfl) (by kernel_rfl) (by kernel_rfl) (fun _ _ _ h => h) ⟨Or.inr ⟨by kernel_rfl, rfl⟩, fun _ => rfl⟩ ?_
                    refine wpAnyIn_take (i := 9) (v := undef) rfl rfl (by kernel_rfl) (by kernel_rfl) (by kernel_rfl) (fun _ _ _ h => h) ⟨Or.inr ⟨by kernel_rfl, rfl⟩, fun _ => rfl⟩ ?_
                    refine wpAnyIn_ready (rs := [7]) (by kernel_rfl) (by simp) ?_
                    refine AllReadyIn.cons rfl (fun K hK => ?_) ?_
                    · go_simp
                      refine hK _ _ ?_
                      clear hK K
                      refine wpAnyIn_ready (rs := [10]) (by kernel_rfl) (by simp) ?_
                      refine AllReadyIn.cons rfl (fun K hK => ?_) ?_
                      · go_simp
                        refine hK _ _ ?_
                        clear hK K
                        refine wpAnyIn_take (i := 11) (v := undef) rfl rfl (by kernel_rfl) (by kernel_rfl) (by kernel_rfl) (fun _ _ _ h => h) ⟨Or.inr ⟨by kernel_rfl, rfl⟩, fun _ => rfl⟩ ?_
                        refine wpAnyIn_ready (rs := [12]) (by kernel_rfl) (by simp) ?_
                        refine AllReadyIn.cons rfl (fun K hK => ?_) ?_
                        · go_simp
                          refine hK _ _ ?_
                          clear hK K
                          refine wpAnyIn_take (i := 13) (v := undef) rfl rfl (by kernel_rfl) (by kernel_rfl) (by kernel_rfl) (fun _ _ _ h => h) ⟨Or.inr ⟨by kernel_rfl, rfl⟩, fun _ => rfl⟩ ?_
                          refine wpAnyIn_take (i := 14) (v := ?_) rfl rfl (by kernel_rfl) (by kernel_rfl) (by kernel_rfl) (fun _ _ _ h => h) ⟨Or.inl ⟨by kernel_rfl, ?_⟩, fun _ => rfl⟩ ?_
                          rotate_left 1
                          · intro _; go_simp <;> (with_reducible rfl)
                          refine wpAnyIn_done (by kernel_rfl) ?_ _
                          gi_wp2_with fail
                          exact hput.out _ (Below.refl _ _).drew rfl
                        exact AllReadyIn.nil
                      exact AllReadyIn.nil
                    exact AllReadyIn.nil
                  exact AllReadyIn.nil
                · obtain ⟨gb, cb, rfl⟩ := HS5.out.form (by simp)
                  have hCr := Lib.hid hCr0
                  have hCb := Lib.hid (hCb0 gb cb rfl)
                  clear hCr0 hCb0
                  by_cases hor : orI (cmpI (r.length : Int) ((bt.length : Int) + 1)) (cmpL r (b1 :: bt)) < 0
                  · gi_wp2_with fail
                    refine region_plain (F := Fence.wide) hfol rfl (by kernel_rfl) ?_
                    refine wpAnyIn_ready (rs := [0]) (by kernel_rfl) (by simp) ?_
                    refine AllReadyIn.cons rfl (fun K hK => ?_) ?_
                    · go_simp
                      refine hK _ _ ?_
                      clear hK K
                      refine wpAnyIn_take (i := 1) (v := ?_) rfl rfl (by kernel_rfl) (by kernel_rfl) (by kernel_rfl) (fun _ _ _ h => h) ⟨Or.inl ⟨by kernel_rfl, ?_⟩, fun _ => rfl⟩ ?_
                      rotate_left 1
                      · intro _; go_simp <;> (with_reducible rfl)
                      refine wpAnyIn_take (i := 2) (v := ?_) rfl rfl (by kernel_rfl) (by kernel_rfl) (by kernel_rfl) (fun _ _ _ h => h) ⟨Or.inl ⟨by kernel_rfl, ?_⟩, fun _ => rfl⟩ ?_
                      rotate_left 1
                      · intro _; go_simp <;> (with_reducible rfl)
                      refine wpAnyIn_take (i := 3) (v := ?_) rfl rfl (by kernel_rfl) (by kernel_rfl) (by kernel_rfl) (fun _ _ _ h => h) ⟨Or.inl ⟨by kernel_rfl, ?_⟩, fun _ => rfl⟩ ?_
                      rotate_left 1
                      · intro _; go_simp <;> (with_reducible rfl)
                      refine wpAnyIn_take (i := 4) (v := ?_) rfl rfl (by kernel_rfl) (by kernel_rfl) (by kernel_rfl) (fun _ _ _ h => h) ⟨Or.inl ⟨by kernel_rfl, ?_⟩, fun _ => rfl⟩ ?_
                      rotate_left 1
                      · intro _; go_simp <;> (with_reducible rfl)
                      refine wpAnyIn_take (i := 8) (v := ?_) rfl rfl (by kernel_rfl) (by kernel_rfl) (by kernel_rfl) (fun _ _ _ h => h) ⟨Or.inl ⟨by kernel_rfl, ?_⟩, fun _ => rfl⟩ ?_
                      rotate_left 1
                      · intro _; go_simp <;> (with_reducible rfl)
                      refine wpAnyIn_ready (rs := [5, 9]) (by kernel_rfl) (by simp) ?_
                      refine AllReadyIn.cons rfl (fun K hK => ?_) ?_
                      · go_simp
                        refine hK _ _ ?_
                        clear hK K
                        refine wpAnyIn_take (i := 6) (v := ?_) rfl rfl (by kernel_rfl) (by kernel_rfl) (by kernel_rfl) (fun _ _ _ h => h) ⟨Or.inl ⟨by kernel_rfl, ?_⟩, fun _ => rfl⟩ ?_
                        rotate_left 1
                        · intro _; go_simp <;> (with_reducible rfl)
                        refine wpAnyIn_ready (rs := [7, 9]) (by kernel_rfl) (by simp) ?_
                        refine AllReadyIn.cons rfl (fun K hK => ?_) ?_
                        · go_simp
                          gi_wp2_with (gi_at_call 91; refine (callsIn_wide.2 (cmpI_calls _ _ _)).mono ?_; rintro e w9 ⟨rfl, rfl⟩)
                          refine wpAnyIn_ready (rs := [9]) (by kernel_rfl) (by simp) ?_
                          refine AllReadyIn.cons rfl (fun K hK => ?_) ?_
                          · go_simp
                            refine hK _ _ ?_
                            clear hK K
                            refine wpAnyIn_ready (rs := [10]) (by kernel_rfl) (by simp) ?_
                            refine AllReadyIn.cons rfl (fun K hK => ?_) ?_
                            · go_simp
                              gi_wp2_with (gi_at_call 92; refine (callsIn_wide.2 (cmpL_calls _ _ _ _ r (b1 :: bt) _ hCr.out hCb.out)).mono ?_; rintro e w9 ⟨rfl, rfl⟩)
                              refine wpAnyIn_ready (rs := [11]) (by kernel_rfl) (by simp) ?_
                              refine AllReadyIn.cons rfl (fun K hK => ?_) ?_
                              · go_simp
                                refine hK _ _ ?_
                                clear hK K
                                refine wpAnyIn_ready (rs := [12]) (by kernel_rfl) (by simp) ?_
                                refine AllReadyIn.cons rfl (fun K hK => ?_) ?_
                                · go_simp
                                  gi_wp2_with (gi_at_call 90; refine (callsIn_wide.2 (orI_calls w4.heap.size (cmpI (r.length : Int) ((bt.length : Int) + 1)) (cmpL r (b1 :: bt)) _ (cell_new w4 _ _ 0) (cell_new w4 _ _ 1))).mono ?_; rintro e w9 ⟨rfl, rfl⟩)
                                  refine wpAnyIn_take (i := 13) (v := ?_) rfl rfl (by kernel_rfl) (by kernel_rfl) (by kernel_rfl) (fun _ _ _ h => h) ⟨Or.inl ⟨by kernel_rfl, ?_⟩, fun _ => rfl⟩ ?_
                                  rotate_left 1
                                  · intro _; go_simp <;> (with_reducible rfl)
                                  refine wpAnyIn_take (i := 14) (v := ?_) rfl rfl (by kernel_rfl) (by kernel_rfl) (by kernel_rfl) (fun _ _ _ h => h) ⟨Or.inl ⟨by kernel_rfl, ?_⟩, fun _ => rfl⟩ ?_
                                  rotate_left 1
                                  · intro _; go_simp <;> (with_reducible rfl)
                                  refine wpAnyIn_done (by kernel_rfl) ?_ _
                                  gi_wp2_with fail
                                  exact hput.out _ ((Below.refl _ _).alloc (by simp) _).drew (by simp [ringLess, hor])
                                exact AllReadyIn.nil
                              exact AllReadyIn.nil
                            exact AllReadyIn.nil
                          exact AllReadyIn.nil
                        refine AllReadyIn.cons rfl (fun K hK => ?_) ?_
                        · go_simp
                          refine hK _ _ ?_
                          clear hK K
                          refine wpAnyIn_ready (rs := [7]) (by kernel_rfl) (by simp) ?_
                          refine AllReadyIn.cons rfl (fun K hK => ?_) ?_
                          · go_simp
                            gi_wp2_with (gi_at_call 91; refine (callsIn_wide.2 (cmpI_calls _ _ _)).mono ?_; rintro e w9 ⟨rfl, rfl⟩)
                            refine wpAnyIn_ready (rs := [10]) (by kernel_rfl) (by simp) ?_
                            refine AllReadyIn.cons rfl (fun K hK => ?_) ?_
                            · go_simp
                              gi_wp2_with (gi_at_call 92; refine (callsIn_wide.2 (cmpL_calls _ _ _ _ r (b1 :: bt) _ hCr.out hCb.out)).mono ?_; rintro e w9 ⟨rfl, rfl⟩)
                              refine wpAnyIn_ready (rs := [11]) (by kernel_rfl) (by simp) ?_
                              refine AllReadyIn.cons rfl (fun K hK => ?_) ?_
                              · go_simp
                                refine hK _ _ ?_
                                clear hK K
                                refine wpAnyIn_ready (rs := [12]) (by kernel_rfl) (by simp) ?_
                                refine AllReadyIn.cons rfl (fun K hK => ?_) ?_
                                · go_simp
                                  gi_wp2_with (gi_at_call 90; refine (callsIn_wide.2 (orI_calls w4.heap.size (cmpI (r.length : Int) ((bt.length : Int) + 1)) (cmpL r (b1 :: bt)) _ (cell_new w4 _ _ 0) (cell_new w4 _ _ 1))).mono ?_; rintro e w9 ⟨rfl, rfl⟩)
                                  refine wpAnyIn_take (i := 13) (v := ?_) rfl rfl (by kernel_rfl) (by kernel_rfl) (by kernel_rfl) (fun _ _ _ h => h) ⟨Or.inl ⟨by kernel_rfl, ?_⟩, fun _ => rfl⟩ ?_
                                  rotate_left 1
                                  · intro _; go_simp <;> (with_reducible rfl)
                                  refine wpAnyIn_take (i := 14) (v := ?_) rfl rfl (by kernel_rfl) (by kernel_rfl) (by kernel_rfl) (fun _ _ _ h => h) ⟨Or.inl ⟨by kernel_rfl, ?_⟩, fun _ => rfl⟩ ?_
                                  rotate_left 1
                                  · intro _; go_simp <;> (with_reducible rfl)
                                  refine wpAnyIn_done (by kernel_rfl) ?_ _
                                  gi_wp2_with fail
                                  exact hput.out _ ((Below.refl _ _).alloc (by simp) _).drew (by simp [ringLess, hor])
                                exact AllReadyIn.nil
                              exact AllReadyIn.nil
                            exact AllReadyIn.nil
                          exact AllReadyIn.nil
                        exact AllReadyIn.nil
                      refine AllReadyIn.cons rfl (fun K hK => ?_) ?_
                      · go_simp
                        refine hK _ _ ?_
                        clear hK K
                        refine wpAnyIn_ready (rs := [5]) (by kernel_rfl) (by simp) ?_
                        refine AllReadyIn.cons rfl (fun K hK => ?_) ?_
                        · go_simp
                          refine hK _ _ ?_
                          clear hK K
                          refine wpAnyIn_take (i := 6) (v := ?_) rfl rfl (by kernel_rfl) (by kernel_rfl) (by kernel_rfl) (fun _ _ _ h => h) ⟨Or.inl ⟨by kernel_rfl, ?_⟩, fun _ => rfl⟩ ?_
                          rotate_left 1
                          · intro _; go_simp <;> (with_reducible rfl)
                          refine wpAnyIn_ready (rs := [7]) (by kernel_rfl) (by simp) ?_
                          refine AllReadyIn.cons rfl (fun K hK => ?_) ?_
                          · go_simp
                            gi_wp2_with (gi_at_call 91; refine (callsIn_wide.2 (cmpI_calls _ _ _)).mono ?_; rintro e w9 ⟨rfl, rfl⟩)
                            refine wpAnyIn_ready (rs := [10]) (by kernel_rfl) (by simp) ?_
                            refine AllReadyIn.cons rfl (fun K hK => ?_) ?_
                            · go_simp
                              gi_wp2_with (gi_at_call 92; refine (callsIn_wide.2 (cmpL_calls _ _ _ _ r (b1 :: bt) _ hCr.out hCb.out)).mono ?_; rintro e w9 ⟨rfl, rfl⟩)
                              refine wpAnyIn_ready (rs := [11]) (by kernel_rfl) (by simp) ?_
                              refine AllReadyIn.cons rfl (fun K hK => ?_) ?_
                              · go_simp
                                refine hK _ _ ?_
                                clear hK K
                                refine wpAnyIn_ready (rs := [12]) (by kernel_rfl) (by simp) ?_
                                refine AllReadyIn.cons rfl (fun K hK => ?_) ?_
                                · go_simp
                                  gi_wp2_with (gi_at_call 90; refine (callsIn_wide.2 (orI_calls w4.heap.size (cmpI (r.length : Int) ((bt.length : Int) + 1)) (cmpL r (b1 :: bt)) _ (cell_new w4 _ _ 0) (cell_new w4 _ _ 1))).mono ?_; rintro e w9 ⟨rfl, rfl⟩)
                                  refine wpAnyIn_take (i := 13) (v := ?_) rfl rfl (by kernel_rfl) (by kernel_rfl) (by kernel_rfl) (fun _ _ _ h => h) ⟨Or.inl ⟨by kernel_rfl, ?_⟩, fun _ => rfl⟩ ?_
                                  rotate_left 1
                                  · intro _; go_simp <;> (with_reducible rfl)
                                  refine wpAnyIn_take (i := 14) (v := ?_) rfl rfl (by kernel_rfl) (by kernel_rfl) (by kernel_rfl) (fun _ _ _ h => h) ⟨Or.inl ⟨by kernel_rfl, ?_⟩, fun _ => rfl⟩ ?_
                                  rotate_left 1
                                  · intro _; go_simp <;> (with_reducible rfl)
                                  refine wpAnyIn_done (by kernel_rfl) ?_ _
                                  gi_wp2_with fail
                                  exact hput.out _ ((Below.refl _ _).alloc (by simp) _).drew (by simp [ringLess, hor])
                                exact AllReadyIn.nil
                              exact AllReadyIn.nil
                            exact AllReadyIn.nil
                          exact AllReadyIn.nil
                        exact AllReadyIn.nil
                      exact AllReadyIn.nil
                    exact AllReadyIn.nil
                  · gi_wp2_with fail
                    refine region_plain (F := Fence.wide) hfol rfl (by kernel_rfl) ?_
                    refine wpAnyIn_ready (rs := [0]) (by kernel_rfl) (by simp) ?_
                    refine AllReadyIn.cons rfl (fun K hK => ?_) ?_
                    · go_simp
                      refine hK _ _ ?_
                      clear hK K
                      refine wpAnyIn_take (i := 1) (v := ?_) rfl rfl (by kernel_rfl) (by kernel_rfl) (by kernel_rfl) (fun _ _ _ h => h) ⟨Or.inl ⟨by kernel_rfl, ?_⟩, fun _ => rfl⟩ ?_
                      rotate_left 1
                      · intro _; go_simp <;> (with_reducible rfl)
                      refine wpAnyIn_take (i := 2) (v := ?_) rfl rfl (by kernel_rfl) (by kernel_rfl) (by kernel_rfl) (fun _ _ _ h => h) ⟨Or.inl ⟨by kernel_rfl, ?_⟩, fun _ => rfl⟩ ?_
                      rotate_left 1
                      · intro _; go_simp <;> (with_reducible rfl)
                      refine wpAnyIn_take (i := 3) (v := ?_) rfl rfl (by kernel_rfl) (by kernel_rfl) (by kernel_rfl) (fun _ _ _ h => h) ⟨Or.inl ⟨by kernel_rfl, ?_⟩, fun _ => rfl⟩ ?_
                      rotate_left 1
                      · intro _; go_simp <;> (with_reducible rfl)
                      refine wpAnyIn_take (i := 4) (v := ?_) rfl rfl (by kernel_rfl) (by kernel_rfl) (by kernel_rfl) (fun _ _ _ h => h) ⟨Or.inl ⟨by kernel_rfl, ?_⟩, fun _ => rfl⟩ ?_
                      rotate_left 1
                      · intro _; go_simp <;> (with_reducible rfl)
                      refine wpAnyIn_take (i := 8) (v := ?_) rfl rfl (by kernel_rfl) (by kernel_rfl) (by kernel_rfl) (fun _ _ _ h => h) ⟨Or.inl ⟨by kernel_rfl, ?_⟩, fun _ => rfl⟩ ?_
                      rotate_left 1
                      · intro _; go_simp <;> (with_reducible rfl)
                      refine wpAnyIn_ready (rs := [5, 9]) (by kernel_rfl) (by simp) ?_
                      refine AllReadyIn.cons rfl (fun K hK => ?_) ?_
                      · go_simp
                        refine hK _ _ ?_
                        clear hK K
                        refine wpAnyIn_take (i := 6) (v := ?_) rfl rfl (by kernel_rfl) (by kernel_rfl) (by kernel_rfl) (fun _ _ _ h => h) ⟨Or.inl ⟨by kernel_rfl, ?_⟩, fun _ => rfl⟩ ?_
                        rotate_left 1
                        · intro _; go_simp <;> (with_reducible rfl)
                        refine wpAnyIn_ready (rs := [7, 9]) (by kernel_rfl) (by simp) ?_
                        refine AllReadyIn.cons rfl (fun K hK => ?_) ?_
                        · go_simp
                          gi_wp2_with (gi_at_call 91; refine (callsIn_wide.2 (cmpI_calls _ _ _)).mono ?_; rintro e w9 ⟨rfl, rfl⟩)
                          refine wpAnyIn_ready (rs := [9]) (by kernel_rfl) (by simp) ?_
                          refine AllReadyIn.cons rfl (fun K hK => ?_) ?_
                          · go_simp
                            refine hK _ _ ?_
                            clear hK K
                            refine wpAnyIn_ready (rs := [10]) (by kernel_rfl) (by simp) ?_
                            refine AllReadyIn.cons rfl (fun K hK => ?_) ?_
                            · go_simp
                              gi_wp2_with (gi_at_call 92; refine (callsIn_wide.2 (cmpL_calls _ _ _ _ r (b1 :: bt) _ hCr.out hCb.out)).mono ?_; rintro e w9 ⟨rfl, rfl⟩)
                              refine wpAnyIn_ready (rs := [11]) (by kernel_rfl) (by simp) ?_
                              refine AllReadyIn.cons rfl (fun K hK => ?_) ?_
                              · go_simp
                                refine hK _ _ ?_
                                clear hK K
                                refine wpAnyIn_ready (rs := [12]) (by kernel_rfl) (by simp) ?_
                                refine AllReadyIn.cons rfl (fun K hK => ?_) ?_
                                · go_simp
                                  gi_wp2_with (gi_at_call 90; refine (callsIn_wide.2 (orI_calls w4.heap.size (cmpI (r.length : Int) ((bt.length : Int) + 1)) (cmpL r (b1 :: bt)) _ (cell_new w4 _ _ 0) (cell_new w4 _ _ 1))).mono ?_; rintro e w9 ⟨rfl, rfl⟩)
                                  refine wpAnyIn_take (i := 13) (v := ?_) rfl rfl (by kernel_rfl) (by kernel_rfl) (by kernel_rfl) (fun _ _ _ h => h) ⟨Or.inl ⟨by kernel_rfl, ?_⟩, fun _ => rfl⟩ ?_
                                  rotate_left 1
                                  · intro _; go_simp <;> (with_reducible rfl)
                                  refine wpAnyIn_take (i := 14) (v := ?_) rfl rfl (by kernel_rfl) (by kernel_rfl) (by kernel_rfl) (fun _ _ _ h => h) ⟨Or.inl ⟨by kernel_rfl, ?_⟩, fun _ => rfl⟩ ?_
                                  rotate_left 1
                                  · intro _; go_simp <;> (with_reducible rfl)
                                  refine wpAnyIn_done (by kernel_rfl) ?_ _
                                  gi_wp2_with fail
                                  exact hkeep.out _ ((Below.refl _ _).alloc (Nat.le_refl _) _).drew (by simp [ringLess, hor])
                                exact AllReadyIn.nil
                              exact AllReadyIn.nil
                            exact AllReadyIn.nil
                          exact AllReadyIn.nil
                        refine AllReadyIn.cons rfl (fun K hK => ?_) ?_
                        · go_simp
                          refine hK _ _ ?_
                          clear hK K
                          refine wpAnyIn_ready (rs := [7]) (by kernel_rfl) (by simp) ?_
                          refine AllReadyIn.cons rfl (fun K hK => ?_) ?_
                          · go_simp
                            gi_wp2_with (gi_at_call 91; refine (callsIn_wide.2 (cmpI_calls _ _ _)).mono ?_; rintro e w9 ⟨rfl, rfl⟩)
                            refine wpAnyIn_ready (rs := [10]) (by kernel_rfl) (by simp) ?_
                            refine AllReadyIn.cons rfl (fun K hK => ?_) ?_
                            · go_simp
                              gi_wp2_with (gi_at_call 92; refine (callsIn_wide.2 (cmpL_calls _ _ _ _ r (b1 :: bt) _ hCr.out hCb.out)).mono ?_; rintro e w9 ⟨rfl, rfl⟩)
                              refine wpAnyIn_ready (rs := [11]) (by kernel_rfl) (by simp) ?_
                              refine AllReadyIn.cons rfl (fun K hK => ?_) ?_
                              · go_simp
                                refine hK _ _ ?_
                                clear hK K
                                refine wpAnyIn_ready (rs := [12]) (by kernel_rfl) (by simp) ?_
                                refine AllReadyIn.cons rfl (fun K hK => ?_) ?_
                                · go_simp
                                  gi_wp2_with (gi_at_call 90; refine (callsIn_wide.2 (orI_calls w4.heap.size (cmpI (r.length : Int) ((bt.length : Int) + 1)) (cmpL r (b1 :: bt)) _ (cell_new w4 _ _ 0) (cell_new w4 _ _ 1))).mono ?_; rintro e w9 ⟨rfl, rfl⟩)
                                  refine wpAnyIn_take (i := 13) (v := ?_) rfl rfl (by kernel_rfl) (by kernel_rfl) (by kernel_rfl) (fun _ _ _ h => h) ⟨Or.inl ⟨by kernel_rfl, ?_⟩, fun _ => rfl⟩ ?_
                                  rotate_left 1
                                  · intro _; go_simp <;> (with_reducible rfl)
                                  refine wpAnyIn_take (i := 14) (v := ?_) rfl rfl (by kernel_rfl) (by kernel_rfl) (by kernel_rfl) (fun _ _ _ h => h) ⟨Or.inl ⟨by kernel_rfl, ?_⟩, fun _ => rfl⟩ ?_
                                  rotate_left 1
                                  · intro _; go_simp <;> (with_reducible rfl)
                                  refine wpAnyIn_done (by kernel_rfl) ?_ _
                                  gi_wp2_with fail
                                  exact hkeep.out _ ((Below.refl _ _).alloc (Nat.le_refl _) _).drew (by simp [ringLess, hor])
                                exact AllReadyIn.nil
                              exact AllReadyIn.nil
                            exact AllReadyIn.nil
                          exact AllReadyIn.nil
                        exact AllReadyIn.nil
                      refine AllReadyIn.cons rfl (fun K hK => ?_) ?_
                      · go_simp
                        refine hK _ _ ?_
                        clear hK K
                        refine wpAnyIn_ready (rs := [5]) (by kernel_rfl) (by simp) ?_
                        refine AllReadyIn.cons rfl (fun K hK => ?_) ?_
                        · go_simp
                          refine hK _ _ ?_
                          clear hK K
                          refine wpAnyIn_take (i := 6) (v := ?_) rfl rfl (by kernel_rfl) (by kernel_rfl) (by kernel_rfl) (fun _ _ _ h => h) ⟨Or.inl ⟨by kernel_rfl, ?_⟩, fun _ => rfl⟩ ?_
                          rotate_left 1
                          · intro _; go_simp <;> (with_reducible rfl)
                          refine wpAnyIn_ready (rs := [7]) (by kernel_rfl) (by simp) ?_
                          refine AllReadyIn.cons rfl (fun K hK => ?_) ?_
                          · go_simp
                            gi_wp2_with (gi_at_call 91; refine (callsIn_wide.2 (cmpI_calls _ _ _)).mono ?_; rintro e w9 ⟨rfl, rfl⟩)
                            refine wpAnyIn_ready (rs := [10]) (by kernel_rfl) (by simp) ?_
                            refine AllReadyIn.cons rfl (fun K hK => ?_) ?_
                            · go_simp
                              gi_wp2_with (gi_at_call 92; refine (callsIn_wide.2 (cmpL_calls _ _ _ _ r (b1 :: bt) _ hCr.out hCb.out)).mono ?_; rintro e w9 ⟨rfl, rfl⟩)
                              refine wpAnyIn_ready (rs := [11]) (by kernel_rfl) (by simp) ?_
                              refine AllReadyIn.cons rfl (fun K hK => ?_) ?_
                              · go_simp
                                refine hK _ _ ?_
                                clear hK K
                                refine wpAnyIn_ready (rs := [12]) (by kernel_rfl) (by simp) ?_
                                refine AllReadyIn.cons rfl (fun K hK => ?_) ?_
                                · go_simp
                                  gi_wp2_with (gi_at_call 90; refine (callsIn_wide.2 (orI_calls w4.heap.size (cmpI (r.length : Int) ((bt.length : Int) + 1)) (cmpL r (b1 :: bt)) _ (cell_new w4 _ _ 0) (cell_new w4 _ _ 1))).mono ?_; rintro e w9 ⟨rfl, rfl⟩)
                                  refine wpAnyIn_take (i := 13) (v := ?_) rfl rfl (by kernel_rfl) (by kernel_rfl) (by kernel_rfl) (fun _ _ _ h => h) ⟨Or.inl ⟨by kernel_rfl, ?_⟩, fun _ => rfl⟩ ?_
                                  rotate_left 1
                                  · intro _; go_simp <;> (with_reducible rfl)
                                  refine wpAnyIn_take (i := 14) (v := ?_) rfl rfl (by kernel_rfl) (by kernel_rfl) (by kernel_rfl) (fun _ _ _ h => h) ⟨Or.inl ⟨by kernel_rfl, ?_⟩, fun _ => rfl⟩ ?_
                                  rotate_left 1
                                  · intro _; go_simp <;> (with_reducible rfl)
                                  refine wpAnyIn_done (by kernel_rfl) ?_ _
                                  gi_wp2_with fail
                                  exact hkeep.out _ ((Below.refl _ _).alloc (Nat.le_refl _) _).drew (by simp [ringLess, hor])
                                exact AllReadyIn.nil
                              exact AllReadyIn.nil
                            exact AllReadyIn.nil
                          exact AllReadyIn.nil
                        exact AllReadyIn.nil
                      exact AllReadyIn.nil
                    exact AllReadyIn.nil
              exact AllReadyIn.nil
            exact AllReadyIn.nil
          exact AllReadyIn.nil
      · intro D1 xs Wb hD1 hxs ⟨v2, hI⟩ hdef
        gi_wp2_with fail
        refine Handed.intro (l.length - (j + 1)) (by have := hgj.out; omega) (HJ.out _ _ _ ⟨_, _, _, _, _, _, _, _, _, _, _, _, _, _, _, _, _, _, _, _, _, _, _, _, _, _, _, _, _, _, _, _, _, _, _, _, _, _, _, _, _, _, _, _, _, _, _, _, _, _, _, _, _, _, v2, j + 1, ⟨?_, Marks.cons hMkL hD1 (by omega) hdef (hMkL.defk hI.out.2.2)⟩, by omega, ⟨rfl⟩, rfl⟩)
        have := hI.out.1
        rw [hxs] at this
        rw [hnext.out]
        exact this
      · intro D1 cd pre Wb _ _ h _
        exact h.elim
    · obtain rfl : j = l.length := by omega
      have ho := hS.o
      have hrg : (names (l.take l.length)).foldl (fun b c => (ups l c).foldl (ringStep (ups l) l.length c) b) [] = ringOf l := by rw [List.take_length]; rfl
      rw [hrg] at hS
      have hfol : (Try.prog).follows .mixedOrders = true := by kernel_rfl
      have hMk := hrel.out.2
      have HSS := Lib.hid hS
      have HMK := Lib.hid hMk
      clear hS hrg hrel hMk
      have hv : ∃ a n c, v = .slice a n c ∧ a.isNone = (ringOf l).isEmpty := by
        cases hR : ringOf l with
        | nil =>
          have h1 := HSS.out.row
          rw [hR] at h1
          exact ⟨none, 0, 0, h1.2 rfl, rfl⟩
        | cons x t =>
          have h1 := HSS.out.row
          rw [hR] at h1
          obtain ⟨g, c, e⟩ := h1.form (by simp)
          exact ⟨_, _, _, e, rfl⟩
      obtain ⟨av, nv, cv, rfl, hav⟩ := hv
      gi_wp2_with fail
      refine wpIn_region_any hfol ?_
      change wpAnyIn _ _ _ _ _ _ _ _ _ (World.drew _)
      refine wpAnyIn_ready (rs := [0, 1]) (by kernel_rfl) (by simp) ?_
      refine AllReadyIn.cons rfl (fun K hK => ?_) ?_
      · go_simp
        refine hK _ _ ?_
        clear hK K
        refine wpAnyIn_ready (rs := [1, 3]) (by kernel_rfl) (by simp) ?_
        refine AllReadyIn.cons rfl (fun K hK => ?_) ?_
        · go_simp
          refine hK _ _ ?_
          clear hK K
          refine wpAnyIn_ready (rs := [2, 3]) (by kernel_rfl) (by simp) ?_
          refine AllReadyIn.cons rfl (fun K hK => ?_) ?_
          · go_simp
            refine hK _ _ ?_
            clear hK K
            refine wpAnyIn_ready (rs := [3]) (by kernel_rfl) (by simp) ?_
            refine AllReadyIn.cons rfl (fun K hK => ?_) ?_
            · go_simp
              refine hK _ _ ?_
              clear hK K
              refine wpAnyIn_ready (rs := [4]) (by kernel_rfl) (by simp) ?_
              refine AllReadyIn.cons rfl (fun K hK => ?_) ?_
              · go_simp
                refine hK _ _ ?_
                clear hK K
                refine wpAnyIn_done (by kernel_rfl) ?_ _
                gi_wp2_with fail
                refine leave_marks HMK.out (fun W' hL => ⟨.tuple #[.slice av nv cv, .bool (!(ringOf l).isEmpty)], ?_, .slice av nv cv, rfl, ?_, ?_⟩)
                · simp [results, Try.results45, go_sem, hav]
                · exact ⟨Kd.R_lower (hL.row (HSS.out.row.later (Below.refl _ _).drew)).1 (by omega), HSS.out.row.2⟩
                · exact HSS.out.hB.drew.trans (hL.below (Nat.le_refl _))
              exact AllReadyIn.nil
            exact AllReadyIn.nil
          refine AllReadyIn.cons rfl (fun K hK => ?_) ?_
          · go_simp
            refine hK _ _ ?_
            clear hK K
            refine wpAnyIn_ready (rs := [2]) (by kernel_rfl) (by simp) ?_
            refine AllReadyIn.cons rfl (fun K hK => ?_) ?_
            · go_simp
              refine hK _ _ ?_
              clear hK K
              refine wpAnyIn_ready (rs := [4]) (by kernel_rfl) (by simp) ?_
              refine AllReadyIn.cons rfl (fun K hK => ?_) ?_
              · go_simp
                refine hK _ _ ?_
                clear hK K
                refine wpAnyIn_done (by kernel_rfl) ?_ _
                gi_wp2_with fail
                refine leave_marks HMK.out (fun W' hL => ⟨.tuple #[.slice av nv cv, .bool (!(ringOf l).isEmpty)], ?_, .slice av nv cv, rfl, ?_, ?_⟩)
                · simp [results, Try.results45, go_sem, hav]
                · exact ⟨Kd.R_lower (hL.row (HSS.out.row.later (Below.refl _ _).drew)).1 (by omega), HSS.out.row.2⟩
                · exact HSS.out.hB.drew.trans (hL.below (Nat.le_refl _))
              exact AllReadyIn.nil
            exact AllReadyIn.nil
          exact AllReadyIn.nil
        refine AllReadyIn.cons rfl (fun K hK => ?_) ?_
        · go_simp
          refine hK _ _ ?_
          clear hK K
          refine wpAnyIn_ready (rs := [1]) (by kernel_rfl) (by simp) ?_
          refine AllReadyIn.cons rfl (fun K hK => ?_) ?_
          · go_simp
            refine hK _ _ ?_
            clear hK K
            refine wpAnyIn_ready (rs := [2]) (by kernel_rfl) (by simp) ?_
            refine AllReadyIn.cons rfl (fun K hK => ?_) ?_
            · go_simp
              refine hK _ _ ?_
              clear hK K
              refine wpAnyIn_ready (rs := [4]) (by kernel_rfl) (by simp) ?_
              refine AllReadyIn.cons rfl (fun K hK => ?_) ?_
              · go_simp
                refine hK _ _ ?_
                clear hK K
                refine wpAnyIn_done (by kernel_rfl) ?_ _
                gi_wp2_with fail
                refine leave_marks HMK.out (fun W' hL => ⟨.tuple #[.slice av nv cv, .bool (!(ringOf l).isEmpty)], ?_, .slice av nv cv, rfl, ?_, ?_⟩)
                · simp [results, Try.results45, go_sem, hav]
                · exact ⟨Kd.R_lower (hL.row (HSS.out.row.later (Below.refl _ _).drew)).1 (by omega), HSS.out.row.2⟩
                · exact HSS.out.hB.drew.trans (hL.below (Nat.le_refl _))
              exact AllReadyIn.nil
            exact AllReadyIn.nil
          exact AllReadyIn.nil
        exact AllReadyIn.nil
      refine AllReadyIn.cons rfl (fun K hK => ?_) ?_
      · go_simp
        refine hK _ _ ?_
        clear hK K
        refine wpAnyIn_ready (rs := [0, 2]) (by kernel_rfl) (by simp) ?_
        refine AllReadyIn.cons rfl (fun K hK => ?_) ?_
        · go_simp
          refine hK _ _ ?_
          clear hK K
          refine wpAnyIn_ready (rs := [2, 3]) (by kernel_rfl) (by simp) ?_
          refine AllReadyIn.cons rfl (fun K hK => ?_) ?_
          · go_simp
            refine hK _ _ ?_
            clear hK K
            refine wpAnyIn_ready (rs := [3]) (by kernel_rfl) (by simp) ?_
            refine AllReadyIn.cons rfl (fun K hK => ?_) ?_
            · go_simp
              refine hK _ _ ?_
              clear hK K
              refine wpAnyIn_ready (rs := [4]) (by kernel_rfl) (by simp) ?_
              refine AllReadyIn.cons rfl (fun K hK => ?_) ?_
              · go_simp
                refine hK _ _ ?_
                clear hK K
                refine wpAnyIn_done (by kernel_rfl) ?_ _
                gi_wp2_with fail
                refine leave_marks HMK.out (fun W' hL => ⟨.tuple #[.slice av nv cv, .bool (!(ringOf l).isEmpty)], ?_, .slice av nv cv, rfl, ?_, ?_⟩)
                · simp [results, Try.results45, go_sem, hav]
                · exact ⟨Kd.R_lower (hL.row (HSS.out.row.later (Below.refl _ _).drew)).1 (by omega), HSS.out.row.2⟩
                · exact HSS.out.hB.drew.trans (hL.below (Nat.le_refl _))
              exact AllReadyIn.nil
            exact AllReadyIn.nil
          refine AllReadyIn.cons rfl (fun K hK => ?_) ?_
          · go_simp
            refine hK _ _ ?_
            clear hK K
            refine wpAnyIn_ready (rs := [2]) (by kernel_rfl) (by simp) ?_
            refine AllReadyIn.cons rfl (fun K hK => ?_) ?_
            · go_simp
              refine hK _ _ ?_
              clear hK K
              refine wpAnyIn_ready (rs := [4]) (by kernel_rfl) (by simp) ?_
              refine AllReadyIn.cons rfl (fun K hK => ?_) ?_
              · go_simp
                refine hK _ _ ?_
                clear hK K
                refine wpAnyIn_done (by kernel_rfl) ?_ _
                gi_wp2_with fail
                refine leave_marks HMK.out (fun W' hL => ⟨.tuple #[.slice av nv cv, .bool (!(ringOf l).isEmpty)], ?_, .slice av nv cv, rfl, ?_, ?_⟩)
                · simp [results, Try.results45, go_sem, hav]
                · exact ⟨Kd.R_lower (hL.row (HSS.out.row.later (Below.refl _ _).drew)).1 (by omega), HSS.out.row.2⟩
                · exact HSS.out.hB.drew.trans (hL.below (Nat.le_refl _))
              exact AllReadyIn.nil
            exact AllReadyIn.nil
          exact AllReadyIn.nil
        refine AllReadyIn.cons rfl (fun K hK => ?_) ?_
        · go_simp
          refine hK _ _ ?_
          clear hK K
          refine wpAnyIn_ready (rs := [0]) (by kernel_rfl) (by simp) ?_
          refine AllReadyIn.cons rfl (fun K hK => ?_) ?_
          · go_simp
            refine hK _ _ ?_
            clear hK K
            refine wpAnyIn_ready (rs := [3]) (by kernel_rfl) (by simp) ?_
            refine AllReadyIn.cons rfl (fun K hK => ?_) ?_
            · go_simp
              refine hK _ _ ?_
              clear hK K
              refine wpAnyIn_ready (rs := [4]) (by kernel_rfl) (by simp) ?_
              refine AllReadyIn.cons rfl (fun K hK => ?_) ?_
              · go_simp
                refine hK _ _ ?_
                clear hK K
                refine wpAnyIn_done (by kernel_rfl) ?_ _
                gi_wp2_with fail
                refine leave_marks HMK.out (fun W' hL => ⟨.tuple #[.slice av nv cv, .bool (!(ringOf l).isEmpty)], ?_, .slice av nv cv, rfl, ?_, ?_⟩)
                · simp [results, Try.results45, go_sem, hav]
                · exact ⟨Kd.R_lower (hL.row (HSS.out.row.later (Below.refl _ _).drew)).1 (by omega), HSS.out.row.2⟩
                · exact HSS.out.hB.drew.trans (hL.below (Nat.le_refl _))
              exact AllReadyIn.nil
            exact AllReadyIn.nil
          exact AllReadyIn.nil
        exact AllReadyIn.nil
      exact AllReadyIn.nil
end Go.Proofs.Ytdljclokenoogaa.Hw
end
section
namespace Go.Proofs.Ytdljclokenoogaa.Hw
open Go.RowKit Go.Proofs.Ytdljclokenoogaa.Hp Go.Proofs.YtdljclokenoogaaW.PrintWords Go.Proofs.YtdljclokenoogaaW.PrintLast Go.Proofs.YtdljclokenoogaaW.PrintMore
attribute [local go_sem] Oper.semAt_some
theorem IsMap.len {P : Program} {w : World} {b : Nat} {m : List (ByteArray × Value)} (h : IsMap w b m) {t k e : TypeId} (ht : P.underlying t = some (.map k e)) (ty : TypeId) : (Builtin.len_ #[t] ty #[.map (some b)]).run P w = .ok (.int .i64 m.length) w := by
  obtain ⟨es, clock, hb, _, hm⟩ := h
  have e1 : es.size = m.length := by have := congrArg List.length hm; simpa using this
  rw [← e1]
  simp [Builtin.len_, run_underlying ht, MapKept.run_getObj_map hb, goInt, Result.andThen]
def keysOf (xs : List ByteArray) : List (ByteArray × Value) := xs.foldl (fun m k => mput m k (.bool true)) []
def dupB (xs : List ByteArray) : Bool := decide ((keysOf xs).length < xs.length)
theorem keysOf_snoc (xs : List ByteArray) (a : ByteArray) : keysOf (xs ++ [a]) = mput (keysOf xs) a (.bool true) := by simp [keysOf]
theorem mput_len {β : Type} (m : List (ByteArray × β)) (k : ByteArray) (v : β) : (mput m k v).length = if (mget m k).isSome then m.length else m.length + 1 := by
  induction m with
  | nil => simp [mput, mget]
  | cons a m ih =>
    obtain ⟨x, u⟩ := a
    simp only [mput, mget]
    by_cases h : k = x
    · simp [h]
    · simp only [if_neg h, List.length_cons, ih]
      split <;> rfl
theorem keysOf_get (xs : List ByteArray) (k : ByteArray) : (mget (keysOf xs) k).isSome = memS xs k := by
  have key : ∀ (xs : List ByteArray) (m : List (ByteArray × Value)), (mget (xs.foldl (fun m k => mput m k (.bool true)) m) k).isSome = (memS xs k || (mget m k).isSome) := by
    intro xs
    induction xs with
    | nil => intro m; simp [memS]
    | cons x xs ih =>
      intro m
      simp only [List.foldl_cons, ih, mget_mput, memS, List.any_cons]
      by_cases h : k = x
      · simp [h]
      · simp [h]
  have h := key xs []
  rw [show (mget ([] : List (ByteArray × Value)) k).isSome = false from rfl, Bool.or_false] at h
  exact h
theorem keysOf_len (xs : List ByteArray) : (keysOf xs).length ≤ xs.length ∧ ((keysOf xs).length = xs.length ↔ xs.Nodup) := by
  have key : ∀ (n : Nat) (xs : List ByteArray), xs.length = n → (keysOf xs).length ≤ xs.length ∧ ((keysOf xs).length = xs.length ↔ xs.Nodup) := by
    intro n
    induction n with
    | zero => intro xs h; rw [List.length_eq_zero_iff] at h; subst h; simp [keysOf]
    | succ n ih =>
      intro xs h
      rcases List.eq_nil_or_concat xs with rfl | ⟨ys, a, rfl⟩
      · simp at h
      · rw [List.concat_eq_append] at h ⊢
        simp at h
        obtain ⟨h1, h2⟩ := ih ys h
        rw [keysOf_snoc, mput_len, keysOf_get, List.length_append, List.length_singleton]
        have hn : (ys ++ [a]).Nodup ↔ ys.Nodup ∧ ¬ a ∈ ys := by
          rw [List.nodup_append]
          simp
          intro _
          exact ⟨fun h hm => h a hm rfl, fun h x hx e => h (e ▸ hx)⟩
        rw [hn]
        by_cases hm : a ∈ ys
        · rw [if_pos (memS_iff.2 hm)]
          exact ⟨by omega, ⟨fun e => by omega, fun e => absurd hm e.2⟩⟩
        · rw [if_neg (fun e => hm (memS_iff.1 e))]
          exact ⟨by omega, ⟨fun e => ⟨h2.1 (by omega), hm⟩, fun e => by rw [h2.2 e.1]⟩⟩
  exact key _ xs rfl
theorem dupB_iff (xs : List ByteArray) : dupB xs = false ↔ xs.Nodup := by
  have h := keysOf_len xs
  rw [← h.2]
  simp only [dupB, decide_eq_false_iff_not]
  omega
set_option maxRecDepth 100000 in
theorem tellP_calls (s : ByteArray) (A1 A2 A3 A4 A5 : Option Addr) (n1 n2 n3 n4 n5 c1 c2 c3 c4 c5 : Nat) (w : World) : Calls Try.prog 86 #[.agg #[.string s, .slice A1 n1 c1, .slice A2 n2 c2, .slice A3 n3 c3, .slice A4 n4 c4, .slice A5 n5 c5]] w fun e w' => e = .returned (.string s) ∧ Below w.heap.size w w' := by
  refine (callsIn_wide (n := 20)).1 ?_
  refine callsIn_of_wp Try.func86 rfl trivial ?_
  simp only [Try.ntmps86, List.size_toArray, List.length_cons, List.length_nil, Nat.reduceAdd, Nat.reduceSub, Array.replicate_succ, Array.replicate_zero, List.push_toArray, List.append_toArray, List.nil_append, List.cons_append]
  gi_wp2_with fail
  go_ret
  exact ⟨rfl, (Below.refl _ _).alloc (Nat.le_refl _) _⟩
theorem take_rdP (l : List S65) (k : Nat) (h : k < l.length) : (l.take (k + 1)).map (·.f0) = (l.take k).map (·.f0) ++ [(rd_T65 l (k : Int)).f0] := by
  have e : rd_T65 l (k : Int) = l[k] := by simp [rd_T65, h]
  rw [List.take_succ_eq_append_getElem h, List.map_append, List.map_cons, List.map_nil, e]
set_option maxRecDepth 100000 in
set_option maxHeartbeats 4000000 in
theorem twiceP_calls (A0 : Option Addr) (c0 : Nat) (xs : List S65) (w : World) (hr : k65.C w A0 xs.length xs) :
    Calls Try.prog 85 #[.slice A0 xs.length c0, .func (.func 86) #[] #[]] w fun e w' => e = .returned (.bool (dupB (xs.map (·.f0)))) ∧ Below w.heap.size w w' := by
  refine (callsIn_wide (n := 20)).1 ?_
  refine callsIn_of_wp Try.func85 rfl trivial ?_
  simp only [Try.ntmps85, List.size_toArray, List.length_cons, List.length_nil, Nat.reduceAdd, Nat.reduceSub, Array.replicate_succ, Array.replicate_zero, List.push_toArray, List.append_toArray, List.nil_append, List.cons_append]
  have hmm := @run_makeMap Try.prog
  have hmax := Kd.C_max hr
  have HR := Lib.hid hr
  clear hr
  gi_wp2_with fail
  gi_loopw [11] (fun i wr => ∃ (k : Nat), k ≤ xs.length ∧ i = .int .i64 k ∧ Aside0 (IsMap wr w.heap.size (keysOf ((xs.take k).map (·.f0)))) ∧ Below w.heap.size w wr) (fun i _ => xs.length - (intOf i).toNat)
  case atStart => exact ⟨0, Nat.zero_le _, rfl, ⟨IsMap.made w⟩, (Below.refl _ _).alloc (Nat.le_refl _) _⟩
  case round =>
    obtain ⟨k, hk, rfl, hM, hB⟩ := hrel
    by_cases hlt : k < xs.length
    · obtain ⟨ad, A1, c1, A2, c2, A3, c3, A4, c4, A5, c5, ea, hx0, hx1, hx2, hx3, hx4, hx5, _⟩ := at_T65 (Kd.C_below HR.out hB) (k : Int) (by omega) (by omega)
      subst ea
      rw [Int.toNat_natCast] at hx0 hx1 hx2 hx3 hx4 hx5
      have hts := take_rdP xs k hlt
      have HTS := Lib.hid hts
      clear hts
      have hsz := hB.size
      obtain ⟨y, hy⟩ : ∃ y, rd_T65 xs (k : Int) = y := ⟨_, rfl⟩
      rw [hy] at hx0 hx1 hx2 hx3 hx4 hx5
      obtain ⟨WL, hWL⟩ : ∃ WL, wr.alloc (.cells #[.string y.f0, .slice A1 y.f1.length c1, .slice A2 y.f2.length c2, .slice A3 y.f3.length c3, .slice A4 y.f4.length c4, .slice A5 y.f5.length c5] 65) = WL := ⟨_, rfl⟩
      have hBL : Below w.heap.size w WL := by rw [← hWL]; exact hB.alloc hsz _
      have hML : IsMap WL w.heap.size (keysOf ((xs.take k).map (·.f0))) := by rw [← hWL]; exact hM.out.alloc _
      have hML2 := Lib.hid hML
      have hcl : ∀ j, WL.cell? ⟨wr.heap.size, j, none⟩ = #[Value.string y.f0, .slice A1 y.f1.length c1, .slice A2 y.f2.length c2, .slice A3 y.f3.length c3, .slice A4 y.f4.length c4, .slice A5 y.f5.length c5][j]? := by rw [← hWL]; exact fun j => cell_new _ _ _ _
      have hc0 := hcl 0
      have hc1 := hcl 1
      have hc2 := hcl 2
      have hc3 := hcl 3
      have hc4 := hcl 4
      have hc5 := hcl 5
      simp at hc0 hc1 hc2 hc3 hc4 hc5
      have hmw := World.block_lt_of_cell? _ _ hc0
      clear hcl hML
      gi_wp2_with (first | (gi_at_call 86; refine (callsIn_wide.2 (tellP_calls _ _ _ _ _ _ _ _ _ _ _ _ _ _ _ _ _)).mono ?_; rintro e w1 ⟨rfl, hb1⟩; have hM1 := hML2.out.below hb1 hML2.out.lt) | (gi_at_mapUpdate; refine wpListIn_store _ rfl _ _ _ 102 rfl 9 4 Try.underlying102 Try.underlying9 w.heap.size _ rfl hM1 _ _ rfl rfl ?_; intro w2 hM2 hG2))
      go_roundw
      case rel =>
        have hB1 := hBL.trans (hb1.mono hBL.size)
        exact ⟨k + 1, by omega, by go_num, ⟨by rw [HTS.out, keysOf_snoc, hy]; exact hM2⟩, hB1.grown hG2 hB1.size (fun j e => by cases e; exact Nat.le_refl _)⟩
      case measure => simp [intOf]; omega
    · obtain rfl : k = xs.length := by omega
      have hlen := fun ty => hM.out.len (P := Try.prog) Try.underlying102 ty
      rw [List.take_length] at hlen
      gi_wp2_with fail
      go_ret
      exact ⟨by unfold dupB; simp, hB⟩
end Go.Proofs.Ytdljclokenoogaa.Hw
end
section
namespace Go.Proofs.Ytdljclokenoogaa.Hw
open Go.RowKit Go.Proofs.Ytdljclokenoogaa.Hp Go.Proofs.YtdljclokenoogaaW.PrintWords Go.Proofs.YtdljclokenoogaaW.PrintLast Go.Proofs.YtdljclokenoogaaW.PrintMore
attribute [local go_sem] Oper.semAt_some
def oddR (r : Nat) : Bool := (decide (r < 65) || decide (90 < r)) && (decide (r < 48) || decide (57 < r)) && !decide (r = 95)
set_option maxRecDepth 100000 in
theorem odd_calls (r : Nat) (w : World) (hr : r ≤ 1114111) : Calls Try.prog 104 #[.int .i32 (r : Int)] w fun e w' => e = .returned (.bool (oddR r)) ∧ w = w' := by
  refine (callsIn_wide (n := 20)).1 ?_
  refine callsIn_of_wp Try.func104 rfl trivial ?_
  simp only [Try.ntmps104, List.size_toArray, List.length_cons, List.length_nil, Nat.reduceAdd, Nat.reduceSub, Array.replicate_succ, Array.replicate_zero, List.push_toArray, List.append_toArray, List.nil_append, List.cons_append]
  gi_wp2_with fail
  all_goals go_ret
  all_goals refine ⟨?_, rfl⟩
  all_goals show Ending.returned (Value.bool _) = Ending.returned (Value.bool (oddR r))
  all_goals congr 2
  all_goals rw [Bool.eq_iff_iff]
  all_goals simp [oddR]
  all_goals omega
def oddFrom (s : ByteArray) : Nat → Nat → Int
  | 0, _ => -1
  | f + 1, pos => if pos < s.size then (if oddR (Utf8.decode s pos).1 = true then (pos : Int) else oddFrom s f (pos + (Utf8.decode s pos).2)) else -1
set_option maxHeartbeats 2000000 in
set_option maxRecDepth 1000000 in
theorem oddIdx_calls (s : ByteArray) (w : World) :
    Calls Try.prog 131 #[.string s, .func (.func 104) #[] #[], .bool true] w fun e w' => e = .returned (.int .i64 (oddFrom s s.size 0)) ∧ Below w.heap.size w w' := by
  go_enter Try.func131, Try.ntmps131
  go_wp2
  go_loopg [] s.size (fun gf wx => ∃ pos : Nat, wx.heap[w.heap.size]? = some (.stringIter s pos) ∧ Below w.heap.size w wx ∧ oddFrom s gf pos = oddFrom s s.size 0 ∧ s.size ≤ pos + gf)
  case atStart => exact ⟨0, World.iter_heap w s 0, (Below.refl _ w).alloc (Nat.le_refl _) _, rfl, by omega⟩
  case round =>
    obtain ⟨pos, hit, hbw, hleft, hfu⟩ := hrel
    by_cases hps : pos < s.size
    · obtain ⟨g', rfl⟩ : ∃ g', gk = g' + 1 := ⟨gk - 1, by omega⟩
      have hnx : ∀ ty, (Instr.next (.pointer (some ⟨w.heap.size, 0, none⟩)) true ty).run Try.prog wr = _ := fun ty => Lib.run_next_any_at wr w.heap.size s pos ty hit hps
      have hwd := Lib.width_pos s pos
      obtain ⟨R, hR⟩ : ∃ R, (Utf8.decode s pos).1 = R := ⟨_, rfl⟩
      obtain ⟨K, hK⟩ : ∃ K, (Utf8.decode s pos).2 = K := ⟨_, rfl⟩
      simp only [oddFrom, hps, if_true, hR, hK] at hleft
      rw [hR, hK] at hnx
      rw [hK] at hwd
      have hit2 := Lib.iterAt_heap wr w.heap.size s pos (pos + K) hit
      have hbw2 := Lib.below_iterAt hbw (k := w.heap.size) (Nat.le_refl _) s (pos + K)
      obtain ⟨W, hWd⟩ : ∃ W, wr.iterAt w.heap.size s (pos + K) = W := ⟨_, rfl⟩
      rw [hWd] at hnx hit2 hbw2
      have cS := odd_calls R W (by rw [← hR]; exact Lib.rune_le s pos)
      cases hsp : oddR R <;> rw [hsp] at cS <;> simp only [hsp, if_true, Bool.false_eq_true, if_false] at hleft
      · go_wp2_with (go_at_call 104; refine cS.mono ?_; rintro e W' ⟨rfl, rfl⟩)
        go_roundg g'
        case measure => omega
        case rel => exact ⟨pos + K, hit2, hbw2, hleft, by omega⟩
      · go_wp2_with (go_at_call 104; refine cS.mono ?_; rintro e W' ⟨rfl, rfl⟩)
        go_ret
        exact ⟨by rw [← hleft] <;> rfl, hbw2⟩
    · have hnx : ∀ ty, (Instr.next (.pointer (some ⟨w.heap.size, 0, none⟩)) true ty).run Try.prog wr = _ := fun ty => Lib.run_next_end_at wr w.heap.size s pos ty hit hps
      have he : oddFrom s gk pos = -1 := by cases gk <;> simp [oddFrom, hps]
      rw [he] at hleft
      go_wp2
      go_ret
      exact ⟨by rw [← hleft] <;> rfl, hbw⟩
theorem oddIdx2_calls (s : ByteArray) (w : World) :
    Calls Try.prog 123 #[.string s, .func (.func 104) #[] #[]] w fun e w' => e = .returned (.int .i64 (oddFrom s s.size 0)) ∧ Below w.heap.size w w' := by
  refine (callsIn_wide (n := 20)).1 ?_
  refine callsIn_of_wp Try.func123 rfl trivial ?_
  simp only [Try.ntmps123, List.size_toArray, List.length_cons, List.length_nil, Nat.reduceAdd, Nat.reduceSub, Array.replicate_succ, Array.replicate_zero, List.push_toArray, List.append_toArray, List.nil_append, List.cons_append]
  gi_wp2_with (gi_at_call 131; refine (callsIn_wide.2 (oddIdx_calls s w)).mono ?_; rintro e w1 ⟨rfl, hb1⟩)
  go_ret
  exact ⟨rfl, hb1⟩
theorem oddHas_calls (s : ByteArray) (w : World) :
    Calls Try.prog 105 #[.string s, .func (.func 104) #[] #[]] w fun e w' => e = .returned (.bool (decide (0 ≤ oddFrom s s.size 0))) ∧ Below w.heap.size w w' := by
  refine (callsIn_wide (n := 20)).1 ?_
  refine callsIn_of_wp Try.func105 rfl trivial ?_
  simp only [Try.ntmps105, List.size_toArray, List.length_cons, List.length_nil, Nat.reduceAdd, Nat.reduceSub, Array.replicate_succ, Array.replicate_zero, List.push_toArray, List.append_toArray, List.nil_append, List.cons_append]
  gi_wp2_with (gi_at_call 123; refine (callsIn_wide.2 (oddIdx2_calls s w)).mono ?_; rintro e w1 ⟨rfl, hb1⟩)
  go_ret
  exact ⟨by simp, hb1⟩
def keptNames : List ByteArray := [⟨#[73, 78, 84, 69, 71, 69, 82]⟩, ⟨#[66, 79, 79, 76, 69, 65, 78]⟩, ⟨#[65, 78, 89]⟩, ⟨#[78, 79, 78, 69]⟩]
def isName (s : ByteArray) : Bool := decide (1 ≤ s.size) && decide (s.size ≤ 20) && decide (oddFrom s s.size 0 < 0) && decide (65 ≤ (s.data.getD 0 0).toNat) && decide ((s.data.getD 0 0).toNat ≤ 90) && !memS keptNames s
set_option maxHeartbeats 2000000 in
set_option maxRecDepth 1000000 in
theorem named_calls (s : ByteArray) (w : World) :
    Calls Try.prog 84 #[.string s] w fun e w' => e = .returned (.bool (isName s)) ∧ Below w.heap.size w w' := by
  refine (callsIn_wide (n := 20)).1 ?_
  refine callsIn_of_wp Try.func84 rfl trivial ?_
  simp only [Try.ntmps84, List.size_toArray, List.length_cons, List.length_nil, Nat.reduceAdd, Nat.reduceSub, Array.replicate_succ, Array.replicate_zero, List.push_toArray, List.append_toArray, List.nil_append, List.cons_append]
  have e0 : ∀ h : 0 < s.size, (s[0]'h).toNat = (s.data.getD 0 0).toNat := by
    intro h
    have h' : 0 < s.data.size := h
    rw [Array.getD_eq_getD_getElem?, Array.getElem?_eq_getElem h']
    rfl
  by_cases h1 : s.size < 1
  · gi_wp2_with fail
    all_goals go_ret
    all_goals refine ⟨?_, Below.refl _ _⟩
    all_goals show Ending.returned (Value.bool _) = Ending.returned (Value.bool (isName s))
    all_goals congr 2
    all_goals simp [isName]
    all_goals omega
  · by_cases h2 : 20 < s.size
    · gi_wp2_with fail
      all_goals go_ret
      all_goals refine ⟨?_, Below.refl _ _⟩
      all_goals show Ending.returned (Value.bool _) = Ending.returned (Value.bool (isName s))
      all_goals congr 2
      all_goals simp [isName]
      all_goals omega
    · have H1 : 0 < s.size := by omega
      have e1 := e0 H1
      obtain ⟨b0, hb0⟩ : ∃ b0, (s.data.getD 0 0).toNat = b0 := ⟨_, rfl⟩
      rw [hb0] at e1
      have hkept : ∀ W : World, ∃ c, Kd.string.C (W.alloc (.cells #[.string ⟨#[73, 78, 84, 69, 71, 69, 82]⟩, .string ⟨#[66, 79, 79, 76, 69, 65, 78]⟩, .string ⟨#[65, 78, 89]⟩, .string ⟨#[78, 79, 78, 69]⟩] 9)) (some ⟨W.heap.size, 0, none⟩) 4 keptNames ∧ c = 0 := by
        intro W
        have hR : Kd.string.R 9 (W.alloc (.cells #[.string ⟨#[73, 78, 84, 69, 71, 69, 82]⟩, .string ⟨#[66, 79, 79, 76, 69, 65, 78]⟩, .string ⟨#[65, 78, 89]⟩, .string ⟨#[78, 79, 78, 69]⟩] 9)) W.heap.size (fun _ => True) (.slice (some ⟨W.heap.size, 0, none⟩) 4 4) keptNames :=
          Kd.R_of_own ⟨rfl, .inr ⟨W.heap.size, 4, _, rfl, Nat.le_refl _, heap_alloc_new W _, Nat.le_refl _, by decide, rfl, rfl⟩⟩ (fun _ _ => trivial)
        obtain ⟨A, c, e, _, hC⟩ := Kd.R_reads hR
        cases e
        exact ⟨0, hC, rfl⟩
      have HK := Lib.hid hkept
      clear hkept e0
      gi_wp2_with (first | (gi_at_call 105; refine (callsIn_wide.2 (oddHas_calls s w)).mono ?_; rintro e w1 ⟨rfl, hb1⟩) | (gi_at_call 79; obtain ⟨_, hC, _⟩ := HK.out w1; refine (callsIn_wide.2 (contains_calls (some ⟨w1.heap.size, 0, none⟩) 4 keptNames s _ hC)).mono ?_; rintro e w2 ⟨rfl, rfl⟩))
      all_goals clear HK
      all_goals go_ret
      all_goals refine ⟨?_, by first | exact hb1 | exact hb1.alloc hb1.size _⟩
      all_goals show Ending.returned (Value.bool _) = Ending.returned (Value.bool (isName s))
      all_goals congr 2
      all_goals simp only [isName, hb0]
      all_goals cases hm : memS keptNames s
      all_goals simp [hm]
      all_goals (try omega)
end Go.Proofs.Ytdljclokenoogaa.Hw
end
section
namespace Go.Proofs.Ytdljclokenoogaa.Hw
open Go.RowKit Go.Proofs.Ytdljclokenoogaa.Hp Go.Proofs.YtdljclokenoogaaW.PrintWords Go.Proofs.YtdljclokenoogaaW.PrintLast Go.Proofs.YtdljclokenoogaaW.PrintMore
attribute [local go_sem] Oper.semAt_some
def aloneOf (l : List S61) (i : Nat) : Int :=
  if 4 < (rd_T61 l (i : Int)).f3.length then 3
  else if isName (rd_T61 l (i : Int)).f0 = false then 4
  else if ((idx l (rd_T61 l (i : Int)).f0).getD 0 < i) ∨ dupB ((rd_T61 l (i : Int)).f3.map (·.f0)) = true then 6 else 0
def lonelyOf (l : List S61) (i : Nat) : Bool := (rd_T61 l (i : Int)).f3.any (fun p => (idx l p.f0).isNone)
def checkOf (l : List S61) : Int × ByteArray :=
  if 24 < l.length then (3, ⟨#[]⟩)
  else match (List.range l.length).find? (fun i => decide (aloneOf l i ≠ 0)) with
    | some i => (aloneOf l i, (rd_T61 l (i : Int)).f0)
    | none => match (List.range l.length).find? (lonelyOf l) with
      | some i => (5, (rd_T61 l (i : Int)).f0)
      | none => match ringOf l with
        | r :: _ => (7, r)
        | [] => (0, ⟨#[]⟩)
theorem checkOf_alone {l : List S61} (hl : l.length ≤ 24) {k : Nat} (hk : k < l.length) (h0 : ∀ j, j < k → aloneOf l j = 0) (h : aloneOf l k ≠ 0) : checkOf l = (aloneOf l k, (rd_T61 l (k : Int)).f0) := by
  have : (List.range l.length).find? (fun i => decide (aloneOf l i ≠ 0)) = some k := by
    rw [List.find?_range_eq_some]
    exact ⟨by simpa using h, by simpa using hk, fun j hj => by simp [h0 j hj]⟩
  unfold checkOf
  rw [if_neg (by omega), this]
theorem checkOf_lonely {l : List S61} (hl : l.length ≤ 24) (ha : ∀ j, j < l.length → aloneOf l j = 0) {k : Nat} (hk : k < l.length) (h0 : ∀ j, j < k → lonelyOf l j = false) (h : lonelyOf l k = true) : checkOf l = (5, (rd_T61 l (k : Int)).f0) := by
  have h1 : (List.range l.length).find? (fun i => decide (aloneOf l i ≠ 0)) = none := by
    rw [List.find?_eq_none]
    intro j hj
    simp [ha j (by simpa using hj)]
  have h2 : (List.range l.length).find? (lonelyOf l) = some k := by
    rw [List.find?_range_eq_some]
    exact ⟨h, by simpa using hk, fun j hj => by simp [h0 j hj]⟩
  unfold checkOf
  rw [if_neg (by omega), h1]
  simp only [h2]
theorem checkOf_ring {l : List S61} (hl : l.length ≤ 24) (ha : ∀ j, j < l.length → aloneOf l j = 0) (hb : ∀ j, j < l.length → lonelyOf l j = false) : checkOf l = match ringOf l with | r :: _ => (7, r) | [] => (0, ⟨#[]⟩) := by
  have h1 : (List.range l.length).find? (fun i => decide (aloneOf l i ≠ 0)) = none := by
    rw [List.find?_eq_none]
    intro j hj
    simp [ha j (by simpa using hj)]
  have h2 : (List.range l.length).find? (lonelyOf l) = none := by
    rw [List.find?_eq_none]
    intro j hj
    simp [hb j (by simpa using hj)]
  unfold checkOf
  rw [if_neg (by omega), h1]
  simp only [h2]
set_option maxRecDepth 100000 in
set_option maxHeartbeats 8000000 in
theorem check_calls (A0 : Option Addr) (c0 : Nat) (l : List S61) (w : World) (hr : k61.C w A0 l.length l) (hc : l.length ≤ c0) :
    Calls Try.prog 43 #[.slice A0 l.length c0] w fun e w' => e = .returned (.tuple #[.int .i64 (checkOf l).1, .string (checkOf l).2]) ∧ Below w.heap.size w w' := by
  refine (callsIn_wide (n := 20)).1 ?_
  refine callsIn_of_wp Try.func43 rfl trivial ?_
  simp only [Try.ntmps43, List.size_toArray, List.length_cons, List.length_nil, Nat.reduceAdd, Nat.reduceSub, Array.replicate_succ, Array.replicate_zero, List.push_toArray, List.append_toArray, List.nil_append, List.cons_append]
  have hmax := Kd.C_max hr
  have HR := Lib.hid hr
  have hfol : (Try.prog).follows .mixedOrders = true := by kernel_rfl
  clear hr
  by_cases hl : l.length ≤ 24
  · gi_wp2_with (gi_at_call 83; refine (callsIn_wide.2 (kinds_calls _ _ _ _ HR.out hc)).mono ?_; rintro e w1 ⟨B, m, rfl, hB, hM, hK, hb1⟩; have HM := Lib.hid hK; have HMB := Lib.hid hM; clear hK hM)
    gi_loopw [22] (fun i wr => ∃ (k : Nat), k ≤ l.length ∧ i = .int .i64 k ∧ Aside0 ((∀ j, j < k → aloneOf l j = 0) ∧ IsMap wr B m) ∧ Below w.heap.size w wr) (fun i _ => l.length - (intOf i).toNat)
    case atStart => exact ⟨0, Nat.zero_le _, rfl, ⟨by simp, HMB.out⟩, hb1⟩
    case round =>
      obtain ⟨k, hk, rfl, hrel, hBr⟩ := hrel
      by_cases hlt : k < l.length
      · obtain ⟨ad, A2, c2, A3, c3, A4, c4, A5, c5, A6, c6, ea, hx0, hx1, hx2, hx3, hx4, hx5, hx6, _, _, hcP, hCP, _⟩ := at_T61 (Kd.C_below HR.out hBr) (k : Int) (by omega) (by omega)
        subst ea
        rw [Int.toNat_natCast] at hx0 hx1 hx2 hx3 hx4 hx5 hx6
        have HCP := Lib.hid hCP
        clear hCP
        obtain ⟨y, hy⟩ : ∃ y, rd_T61 l (k : Int) = y := ⟨_, rfl⟩
        rw [hy] at hx0 hx1 hx2 hx3 hx4 hx5 hx6 HCP hcP
        have HY := Lib.hid hy
        clear hy
        have hal : aloneOf l k = if 4 < y.f3.length then 3 else if isName y.f0 = false then 4 else if ((idx l y.f0).getD 0 < k) ∨ dupB (y.f3.map (·.f0)) = true then 6 else 0 := by unfold aloneOf; rw [HY.out]
        have HAL := Lib.hid hal
        clear hal
        have hszr := hBr.size
        obtain ⟨WL, hWL⟩ : ∃ WL, wr.alloc (.cells #[.string y.f0, .bool y.f1, .slice A2 y.f2.length c2, .slice A3 y.f3.length c3, .slice A4 y.f4.length c4, .slice A5 y.f5.length c5, .slice A6 y.f6.length c6] 61) = WL := ⟨_, rfl⟩
        have hBL : Below w.heap.size w WL := by rw [← hWL]; exact hBr.alloc hszr _
        have hML : IsMap WL B m := by rw [← hWL]; exact hrel.out.2.alloc _
        have hCPL : k65.C WL A3 y.f3.length y.f3 := by rw [← hWL]; exact Kd.C_alloc HCP.out _
        have HML := Lib.hid hML
        have HCPL := Lib.hid hCPL
        have hcl : ∀ i, WL.cell? ⟨wr.heap.size, i, none⟩ = #[Value.string y.f0, .bool y.f1, .slice A2 y.f2.length c2, .slice A3 y.f3.length c3, .slice A4 y.f4.length c4, .slice A5 y.f5.length c5, .slice A6 y.f6.length c6][i]? := by rw [← hWL]; exact fun i => cell_new _ _ _ _
        have hcl0 := hcl 0
        have hcl3 := hcl 3
        simp at hcl0 hcl3
        have hmw := World.block_lt_of_cell? _ _ hcl0
        have hmax3 := Kd.C_max HCP.out
        clear hcl hML hCPL
        have hfin : Hid (aloneOf l k ≠ 0 → checkOf l = (aloneOf l k, y.f0)) := by
          show _ → _
          intro h
          rw [checkOf_alone hl hlt hrel.out.1 h, HY.out]
        by_cases h4 : 4 < y.f3.length
        · gi_wp2_with fail
          gi_region_with_o fail
          all_goals gi_wp2_with fail
          all_goals go_ret2
          all_goals exact ⟨by rw [hfin.out (by rw [HAL.out, if_pos h4]; decide), HAL.out, if_pos h4]; rfl, by first | exact hBL | exact hBL.drew⟩
        · rw [if_neg h4] at HAL
          have H4 := Lib.hid h4
          gi_wp2_with fail
          refine (callsIn_wide.2 (named_calls _ _)).mono ?_
          rintro e w2 ⟨rfl, hb2⟩
          have hB2 := hBL.trans (hb2.mono hBL.size)
          have hc0 := (hb2.cell (p := ⟨wr.heap.size, 0, none⟩) hmw).trans hcl0
          have hc3 := (hb2.cell (p := ⟨wr.heap.size, 3, none⟩) hmw).trans hcl3
          have HM2 := Lib.hid (HML.out.below hb2 HML.out.lt)
          have HCP2 := Lib.hid (Kd.C_below HCPL.out hb2)
          cases he : isName y.f0 with
          | false =>
            have HE := Lib.hid he
            clear he
            gi_wp2_with fail
            gi_region_with_o fail
            all_goals gi_wp2_with fail
            all_goals go_ret2
            all_goals exact ⟨by rw [hfin.out (by rw [HAL.out, if_pos HE.out]; decide), HAL.out, if_pos HE.out]; rfl, by first | exact hB2 | exact hB2.drew⟩
          | true =>
            rw [if_neg (by rw [he]; decide)] at HAL
            have HE := Lib.hid he
            clear he
            have hlk := HM2.out.look (P := Try.prog) Try.underlying69 Try.underlying9 (zero3 _) y.f0 false
            have hgd : (mget m y.f0).getD (.int .i64 0) = .int .i64 (((idx l y.f0).getD 0 : Nat) : Int) := by
              rw [HM.out]
              cases idx l y.f0 <;> rfl
            rw [hgd] at hlk
            simp only [Bool.false_eq_true, ↓reduceIte] at hlk
            obtain ⟨q, hq⟩ : ∃ q, (idx l y.f0).getD 0 = q := ⟨_, rfl⟩
            rw [hq] at hlk HAL
            clear hgd hq
            by_cases hik : q < k
            · gi_wp2_with fail
              gi_region_with_o fail
              all_goals gi_wp2_with fail
              all_goals go_ret2
              all_goals exact ⟨by rw [hfin.out (by rw [HAL.out, if_pos (.inl hik)]; decide), HAL.out, if_pos (.inl hik)]; rfl, by first | exact hB2 | exact hB2.drew⟩
            · gi_wp2_with fail
              refine (callsIn_wide.2 (twiceP_calls A3 c3 y.f3 w2 HCP2.out)).mono ?_
              rintro e w3 ⟨rfl, hb3⟩
              have hB3 := hB2.trans (hb3.mono hB2.size)
              have hmw2 := World.block_lt_of_cell? _ _ hc0
              have hc03 := (hb3.cell (p := ⟨wr.heap.size, 0, none⟩) hmw2).trans hc0
              have HM3 := Lib.hid (HM2.out.below hb3 HM2.out.lt)
              cases hdup : dupB (y.f3.map (·.f0)) with
              | true =>
                have HD := Lib.hid hdup
                clear hdup
                gi_wp2_with fail
                gi_region_with_o fail
                all_goals gi_wp2_with fail
                all_goals go_ret2
                all_goals exact ⟨by rw [hfin.out (by rw [HAL.out, if_pos (.inr HD.out)]; decide), HAL.out, if_pos (.inr HD.out)]; rfl, by first | exact hB3 | exact hB3.drew⟩
              | false =>
                have HD := Lib.hid hdup
                clear hdup
                gi_wp2_with fail
                go_roundw
                case rel => exact ⟨k + 1, by omega, by go_num, ⟨fun j hj => (Nat.lt_succ_iff_lt_or_eq.1 hj).elim (hrel.out.1 j) (fun h => by rw [h, HAL.out, if_neg (by rw [HD.out]; simpa using hik)]), HM3.out⟩, hB3⟩
                case measure => simp [intOf]; omega
      · obtain rfl : k = l.length := by omega
        have hall : Hid (∀ j, j < l.length → aloneOf l j = 0) := hrel.out.1
        have HMr := Lib.hid hrel.out.2
        clear hrel
        gi_wp2_with fail
        gi_loopw [56] (fun i wr => ∃ (k : Nat), k ≤ l.length ∧ i = .int .i64 k ∧ Aside0 ((∀ j, j < k → lonelyOf l j = false) ∧ IsMap wr B m) ∧ Below w.heap.size w wr) (fun i _ => l.length - (intOf i).toNat)
        case atStart => exact ⟨0, Nat.zero_le _, rfl, ⟨by simp, HMr.out⟩, hBr⟩
        case round =>
          clear hBr
          obtain ⟨k, hk, rfl, hrelo, hBr⟩ := hrel
          obtain ⟨wo, hwo⟩ : ∃ wo, wo = wr := ⟨wr, rfl⟩
          subst hwo
          by_cases hlt : k < l.length
          · obtain ⟨ad, A2, c2, A3, c3, A4, c4, A5, c5, A6, c6, ea, hx0, hx1, hx2, hx3, hx4, hx5, hx6, _, _, hcP, hCP, _⟩ := at_T61 (Kd.C_below HR.out hBr) (k : Int) (by omega) (by omega)
            subst ea
            rw [Int.toNat_natCast] at hx0 hx1 hx2 hx3 hx4 hx5 hx6
            have HCP := Lib.hid hCP
            clear hCP
            obtain ⟨y, hy⟩ : ∃ y, rd_T61 l (k : Int) = y := ⟨_, rfl⟩
            rw [hy] at hx0 hx1 hx2 hx3 hx4 hx5 hx6 HCP hcP
            have HY := Lib.hid hy
            clear hy
            have hszr := hBr.size
            obtain ⟨WL, hWL⟩ : ∃ WL, wo.alloc (.cells #[.string y.f0, .bool y.f1, .slice A2 y.f2.length c2, .slice A3 y.f3.length c3, .slice A4 y.f4.length c4, .slice A5 y.f5.length c5, .slice A6 y.f6.length c6] 61) = WL := ⟨_, rfl⟩
            have hBL : Below w.heap.size w WL := by rw [← hWL]; exact hBr.alloc hszr _
            have hML : IsMap WL B m := by rw [← hWL]; exact hrelo.out.2.alloc _
            have hCPL : k65.C WL A3 y.f3.length y.f3 := by rw [← hWL]; exact Kd.C_alloc HCP.out _
            have HML := Lib.hid hML
            have HCPL := Lib.hid hCPL
            have hcl : ∀ i, WL.cell? ⟨wo.heap.size, i, none⟩ = #[Value.string y.f0, .bool y.f1, .slice A2 y.f2.length c2, .slice A3 y.f3.length c3, .slice A4 y.f4.length c4, .slice A5 y.f5.length c5, .slice A6 y.f6.length c6][i]? := by rw [← hWL]; exact fun i => cell_new _ _ _ _
            have hcl0 := hcl 0
            have hcl3 := hcl 3
            simp at hcl0 hcl3
            have hmw := World.block_lt_of_cell? _ _ hcl0
            have hmax3 := Kd.C_max HCP.out
            clear hcl hML hCPL
            have hlo : Hid (lonelyOf l k = y.f3.any (fun p => (idx l p.f0).isNone)) := by show _ = _; unfold lonelyOf; rw [HY.out]
            gi_wp2_with fail
            gi_loopw [63] (fun i wr2 => ∃ (q : Nat), q ≤ y.f3.length ∧ i = .int .i64 q ∧ Aside0 ((y.f3.take q).any (fun p => (idx l p.f0).isNone) = false) ∧ Below WL.heap.size WL wr2) (fun i _ => y.f3.length - (intOf i).toNat)
            case atStart => exact ⟨0, Nat.zero_le _, rfl, ⟨by simp⟩, Below.refl _ _⟩
            case round =>
              obtain ⟨q, hq, rfl, hpre, hB2⟩ := hrel
              have hB3 := hBL.trans (hB2.mono hBL.size)
              have HM2 := Lib.hid (HML.out.below hB2 HML.out.lt)
              have hmw2 : wo.heap.size < WL.heap.size := hmw
              have hc0 := (hB2.cell (p := ⟨wo.heap.size, 0, none⟩) hmw2).trans hcl0
              have hsz2 := hB2.size
              have hmw3 : wo.heap.size < wr.heap.size := by omega
              by_cases hq2 : q < y.f3.length
              · obtain ⟨ad2, B1, e1, B2, e2, B3, e3, B4, e4, B5, e5, ea, hy0, hy1, hy2, hy3, hy4, hy5, _⟩ := at_T65 (Kd.C_below HCPL.out hB2) (q : Int) (by omega) (by omega)
                subst ea
                rw [Int.toNat_natCast] at hy0 hy1 hy2 hy3 hy4 hy5
                obtain ⟨z, hz⟩ : ∃ z, rd_T65 y.f3 (q : Int) = z := ⟨_, rfl⟩
                rw [hz] at hy0 hy1 hy2 hy3 hy4 hy5
                have hts : y.f3.take (q + 1) = y.f3.take q ++ [z] := by rw [← hz, List.take_succ_eq_append_getElem hq2]; simp [rd_T65, hq2]
                have hzm : z ∈ y.f3 := by rw [← hz]; simp only [rd_T65, Int.toNat_natCast, List.getD_eq_getElem?_getD, List.getElem?_eq_getElem hq2, Option.getD_some]; exact List.getElem_mem _
                have HTS := Lib.hid hts
                have HZM := Lib.hid hzm
                clear hz hts hzm
                have hlk := fun o => (HM2.out.alloc o).look (P := Try.prog) Try.underlying69 Try.underlying9 (zero3 _) z.f0 true
                have hmg : mget m z.f0 = (idx l z.f0).map (fun i => .int .i64 i) := HM.out z.f0
                rw [hmg] at hlk
                clear hmg
                cases hi : idx l z.f0 with
                | none =>
                  simp only [hi, Option.map_none, Option.getD_none, Option.isSome_none, ↓reduceIte] at hlk
                  have HI := Lib.hid hi
                  clear hi
                  gi_wp2_with fail
                  gi_region_with_o fail
                  all_goals gi_wp2_with fail
                  all_goals go_ret2
                  all_goals refine ⟨?_, by first | exact hB3.alloc (by omega) _ | exact (hB3.alloc (by omega) _).drew⟩
                  all_goals rw [checkOf_lonely hl hall.out hlt hrelo.out.1 (by rw [hlo.out, List.any_eq_true]; exact ⟨z, HZM.out, by rw [HI.out]; rfl⟩), HY.out]
                  all_goals rfl
                | some i =>
                  simp only [hi, Option.map_some, Option.getD_some, Option.isSome_some, ↓reduceIte] at hlk
                  have HI := Lib.hid hi
                  clear hi
                  gi_wp2_with fail
                  go_roundw
                  case rel => exact ⟨q + 1, by omega, by go_num, ⟨by rw [HTS.out, List.any_append, hpre.out]; simp [HI.out]⟩, hB2.alloc (by omega) _⟩
                  case measure => simp [intOf]; omega
              · gi_wp2_with fail
                go_roundw
                case rel =>
                  obtain rfl : q = y.f3.length := by omega
                  refine ⟨k + 1, by omega, by go_num, ⟨fun j hj => (Nat.lt_succ_iff_lt_or_eq.1 hj).elim (hrelo.out.1 j) (fun h => ?_), HM2.out⟩, hB3⟩
                  have h1 := hpre.out
                  rw [List.take_length] at h1
                  rw [h, hlo.out, h1]
                case measure => simp [intOf]; omega
          · obtain rfl : k = l.length := by omega
            have hup : ∀ x ∈ l, x.f3.length ≤ 1100000000000 := by
              intro x hx
              obtain ⟨j, hj, e⟩ := List.mem_iff_getElem.1 hx
              have h1 := hall.out j hj
              have e2 : rd_T61 l (j : Int) = x := by simp [rd_T61, hj, e]
              unfold aloneOf at h1
              rw [e2] at h1
              split at h1
              · cases h1
              · omega
            have HUP := Lib.hid hup
            have hck := checkOf_ring hl hall.out hrelo.out.1
            have HCK := Lib.hid hck
            clear hup hck
            gi_wp2_with fail
            refine (callsIn_wide.2 (ring_calls A0 c0 l wo (Kd.C_below HR.out hBr) hc (by omega) HUP.out)).mono ?_
            rintro e w3 ⟨v, rfl, hrow, hb3⟩
            have hB3 := hBr.trans (hb3.mono hBr.size)
            cases hrg : ringOf l with
            | nil =>
              rw [hrg] at HCK
              have HRG := Lib.hid hrg
              clear hrg
              have hem : (ringOf l).isEmpty = true := by rw [HRG.out]; rfl
              gi_wp2_with fail
              go_ret2
              exact ⟨by rw [HCK.out]; rfl, hB3⟩
            | cons r rt =>
              rw [hrg] at HCK hrow
              have HRG := Lib.hid hrg
              clear hrg
              have hem : (ringOf l).isEmpty = false := by rw [HRG.out]; rfl
              obtain ⟨A9, c9, rfl, hc9, hC9⟩ := hrow.reads
              obtain ⟨ad9, ea, hx9⟩ := at_s hC9 0 (by simp)
              subst ea
              have e9 : nth (r :: rt) 0 = r := rfl
              have ha9 : ad9.add 0 = ad9 := rfl
              rw [e9, ha9] at hx9
              clear e9 ha9
              have hl9 : 0 < (r :: rt).length := by simp
              gi_wp2_with fail
              gi_region_with_o fail
              all_goals gi_wp2_with fail
              all_goals go_ret2
              all_goals exact ⟨by rw [HCK.out]; rfl, by first | exact hB3 | exact hB3.drew⟩
  · gi_wp2_with fail
    go_ret2
    exact ⟨by unfold checkOf; rw [if_pos (by omega)]; rfl, Below.refl _ _⟩
end Go.Proofs.Ytdljclokenoogaa.Hw
end
section
namespace Go.Proofs.Ytdljclokenoogaa.Hw
open Go.RowKit Go.Proofs.Ytdljclokenoogaa.Hp Go.Proofs.YtdljclokenoogaaW.PrintWords Go.Proofs.YtdljclokenoogaaW.PrintLast Go.Proofs.YtdljclokenoogaaW.PrintMore
attribute [local go_sem] Oper.semAt_some
def askedOf (l : List S61) (ns : List ByteArray) : Int := if (checkOf l).1 ≠ 0 then (checkOf l).1 else if ns.all (fun s => (idx l s).isSome) then 0 else 5
set_option maxRecDepth 100000 in
set_option maxHeartbeats 4000000 in
theorem right_calls (A0 A1 : Option Addr) (c0 c1 : Nat) (l : List S61) (ns : List ByteArray) (w : World) (hr : k61.C w A0 l.length l) (hc : l.length ≤ c0) (hn : Kd.string.C w A1 ns.length ns) :
    Calls Try.prog 55 #[.slice A0 l.length c0, .slice A1 ns.length c1] w fun e w' => Below w.heap.size w w' ∧ (askedOf l ns ≠ 0 ∧ e = .returned (.tuple #[.agg #[.slice none 0 0, .map none], .int .i64 (askedOf l ns)]) ∨
      askedOf l ns = 0 ∧ ∃ B m, e = .returned (.tuple #[.agg #[.slice A0 l.length c0, .map (some B)], .int .i64 0]) ∧ w.heap.size ≤ B ∧ IsMap w' B m ∧ IsKinds m l) := by
  refine (callsIn_wide (n := 20)).1 ?_
  refine callsIn_of_wp Try.func55 rfl trivial ?_
  simp only [Try.ntmps55, List.size_toArray, List.length_cons, List.length_nil, Nat.reduceAdd, Nat.reduceSub, Array.replicate_succ, Array.replicate_zero, List.push_toArray, List.append_toArray, List.nil_append, List.cons_append]
  have hmax := Kd.C_max hn
  have HR := Lib.hid hr
  have HN := Lib.hid hn
  have hfol : (Try.prog).follows .mixedOrders = true := by kernel_rfl
  clear hr hn
  obtain ⟨W0, hW0⟩ : ∃ W0, w.alloc (.cells #[.slice none 0 0, .map none] 99) = W0 := ⟨_, rfl⟩
  have hB0 : Below w.heap.size w W0 := by rw [← hW0]; exact (Below.refl _ _).alloc (Nat.le_refl _) _
  have hs0 : W0.heap.size = w.heap.size + 1 := by rw [← hW0]; simp
  have hz0 : W0.cell? ⟨w.heap.size, 0, none⟩ = some (.slice none 0 0) := by rw [← hW0]; exact cell_new _ _ _ _
  have hz1 : W0.cell? ⟨w.heap.size, 1, none⟩ = some (.map none) := by rw [← hW0]; exact cell_new _ _ _ _
  have hzf : W0.frozen? ⟨w.heap.size, 0, none⟩ = false := by rw [← hW0]; exact frozen_new _ _ _ _
  have hzf1 : W0.frozen? ⟨w.heap.size, 1, none⟩ = false := by rw [← hW0]; exact frozen_new _ _ _ _
  gi_wp2_with fail
  refine (callsIn_wide.2 (check_calls A0 c0 l W0 (Kd.C_below HR.out hB0) hc)).mono ?_
  rintro e w1 ⟨rfl, hb1⟩
  have hB1 := hB0.trans (hb1.mono hB0.size)
  have hlt0 : w.heap.size < W0.heap.size := by omega
  have hy0 := (hb1.cell (p := ⟨w.heap.size, 0, none⟩) hlt0).trans hz0
  have hy1 := (hb1.cell (p := ⟨w.heap.size, 1, none⟩) hlt0).trans hz1
  have hyf := (hb1.frozen (p := ⟨w.heap.size, 0, none⟩) hlt0).trans hzf
  have hyf1 := (hb1.frozen (p := ⟨w.heap.size, 1, none⟩) hlt0).trans hzf1
  obtain ⟨er, her⟩ : ∃ er, (checkOf l).1 = er := ⟨_, rfl⟩
  have hask : askedOf l ns = if er ≠ 0 then er else if ns.all (fun s => (idx l s).isSome) then 0 else 5 := by unfold askedOf; rw [her]
  have HASK := Lib.hid hask
  clear hask hz0 hz1 hzf hzf1 hW0
  by_cases he : er = 0
  · subst he
    gi_wp2_with fail
    refine (callsIn_wide.2 (of_calls A0 c0 l w1 (Kd.C_below HR.out hB1) hc)).mono ?_
    rintro e w2 ⟨B, m, rfl, hBB, hM, hK, hb2⟩
    have hB2 := hB1.trans (hb2.mono hB1.size)
    have hs1 := hb1.size
    have hs2 := hb2.size
    have hlt1 : w.heap.size < w1.heap.size := by omega
    have hx0 := (hb2.cell (p := ⟨w.heap.size, 0, none⟩) hlt1).trans hy0
    have hx1 := (hb2.cell (p := ⟨w.heap.size, 1, none⟩) hlt1).trans hy1
    have hxf := (hb2.frozen (p := ⟨w.heap.size, 0, none⟩) hlt1).trans hyf
    have hxf1 := (hb2.frozen (p := ⟨w.heap.size, 1, none⟩) hlt1).trans hyf1
    obtain ⟨WL, hWL⟩ : ∃ WL, w2.alloc (.cells #[.slice A0 l.length c0, .map (some B)] 99) = WL := ⟨_, rfl⟩
    have hBL : Below w.heap.size w WL := by rw [← hWL]; exact hB2.alloc hB2.size _
    have hbL : Below w2.heap.size w2 WL := by rw [← hWL]; exact (Below.refl _ _).alloc (Nat.le_refl _) _
    have hsL : WL.heap.size = w2.heap.size + 1 := by rw [← hWL]; simp
    have hlt2 : w.heap.size < w2.heap.size := by omega
    have hg0 : WL.cell? ⟨w2.heap.size, 0, none⟩ = some (.slice A0 l.length c0) := by rw [← hWL]; exact cell_new _ _ _ _
    have hg1 : WL.cell? ⟨w2.heap.size, 1, none⟩ = some (.map (some B)) := by rw [← hWL]; exact cell_new _ _ _ _
    have hq0 := (hbL.cell (p := ⟨w.heap.size, 0, none⟩) hlt2).trans hx0
    have hq1 := (hbL.cell (p := ⟨w.heap.size, 1, none⟩) hlt2).trans hx1
    have hqf := (hbL.frozen (p := ⟨w.heap.size, 0, none⟩) hlt2).trans hxf
    have hqf1 := (hbL.frozen (p := ⟨w.heap.size, 1, none⟩) hlt2).trans hxf1
    have hML : IsMap WL B m := hM.below hbL hM.lt
    have HM := Lib.hid hK
    have HML := Lib.hid hML
    have hltL : w.heap.size < WL.heap.size := by omega
    clear hM hK hML hx0 hx1 hxf hxf1 hy0 hy1 hyf hyf1
    gi_wp2_with fail
    clear hWL
    gi_loopw [26] (fun i wr => ∃ (k : Nat), k ≤ ns.length ∧ i = .int .i64 k ∧ Aside0 ((ns.take k).all (fun s => (idx l s).isSome) = true) ∧ Aside0 (WL = wr)) (fun i _ => ns.length - (intOf i).toNat)
    case atStart => exact ⟨0, Nat.zero_le _, rfl, ⟨by simp⟩, ⟨rfl⟩⟩
    case round =>
      obtain ⟨k, hk, rfl, hn, ⟨rfl⟩⟩ := hrel
      by_cases hlt : k < ns.length
      · obtain ⟨ad, ea, hx⟩ := at_s (Kd.C_below HN.out hBL) k hlt
        subst ea
        have hlk := HML.out.look (P := Try.prog) Try.underlying69 Try.underlying9 (zero3 _) (nth ns k) true
        have hmg : mget m (nth ns k) = (idx l (nth ns k)).map (fun i => .int .i64 i) := HM.out _
        rw [hmg] at hlk
        clear hmg
        have hmem := getD_mem hlt
        have hts := take_nth ns k hlt
        have HTS := Lib.hid hts
        have HMEM := Lib.hid hmem
        clear hts hmem
        cases hi : idx l (nth ns k) with
        | none =>
          simp only [hi, Option.map_none, Option.getD_none, Option.isSome_none, ↓reduceIte] at hlk
          have HI := Lib.hid hi
          clear hi
          gi_wp2_with fail
          have hal : askedOf l ns = 5 := by
            rw [HASK.out, if_neg (by simp), if_neg]
            intro h
            have := List.all_eq_true.1 h _ HMEM.out
            rw [HI.out] at this
            cases this
          refine bodyPost_ret (v := .tuple #[.agg #[.slice none 0 0, .map none], .int .i64 5]) ?_ rfl ⟨?_, .inl ⟨by rw [hal]; decide, by rw [hal]⟩⟩
          · simp [results, Try.results55, go_sem, hq0, hq1, hqf, hqf1]
          · first | exact hBL | exact (hBL.setCell (p := ⟨w.heap.size, 0, none⟩) (Nat.le_refl _) _).setCell (p := ⟨w.heap.size, 1, none⟩) (Nat.le_refl _) _
        | some i =>
          simp only [hi, Option.map_some, Option.getD_some, Option.isSome_some, ↓reduceIte] at hlk
          have HI := Lib.hid hi
          clear hi
          gi_wp2_with fail
          go_roundw
          case rel => exact ⟨k + 1, by omega, by go_num, ⟨by rw [HTS.out, List.all_append, hn.out]; simp [HI.out]⟩, ⟨by first | rfl | trivial⟩⟩
          case measure => simp [intOf]; omega
      · obtain rfl : k = ns.length := by omega
        gi_wp2_with fail
        have hal : askedOf l ns = 0 := by
          have := hn.out
          rw [List.take_length] at this
          rw [HASK.out, if_neg (by simp), if_pos this]
        refine bodyPost_ret (v := .tuple #[.agg #[.slice A0 l.length c0, .map (some B)], .int .i64 0]) ?_ rfl ⟨?_, .inr ⟨hal, B, m, rfl, by omega, ?_, HM.out⟩⟩
        · simp [results, Try.results55, go_sem, hq0, hq1, hqf, hqf1]
        · exact (hBL.setCell (p := ⟨w.heap.size, 0, none⟩) (Nat.le_refl _) _).setCell (p := ⟨w.heap.size, 1, none⟩) (Nat.le_refl _) _
        · exact (HML.out.setCell _ _).setCell _ _
  · have heb : (er != 0) = true := by simpa using he
    have HE := Lib.hid he
    clear he
    gi_wp2_with fail
    have hal : askedOf l ns = er := by rw [HASK.out, if_pos HE.out]
    refine bodyPost_ret (v := .tuple #[.agg #[.slice none 0 0, .map none], .int .i64 er]) ?_ rfl ⟨?_, .inl ⟨by rw [hal]; exact HE.out, by rw [hal]⟩⟩
    · simp [results, Try.results55, go_sem, hy0, hy1, hyf, hyf1]
    · first | exact hB1 | exact (hB1.setCell (p := ⟨w.heap.size, 0, none⟩) (Nat.le_refl _) _).setCell (p := ⟨w.heap.size, 1, none⟩) (Nat.le_refl _) _
end Go.Proofs.Ytdljclokenoogaa.Hw
end
section
namespace Go.Proofs.Ytdljclokenoogaa.Hw
open Go.Proofs.Ytdljclokenoogaa.Hp
section
variable {up : ByteArray → List ByteArray} {names : List ByteArray}
theorem exists_far (hup : ∀ c p, p ∈ up c → c ∈ names) (tg : ByteArray) : ∃ D, IsFar up tg D ∧ ∀ k d, mget D k = some d → d ≤ names.length + 1 := by
  have key : ∀ (P : Nat) (D : List (ByteArray × Nat)), FarOk up names tg D → pot names.length D < P → ∃ D, IsFar up tg D ∧ ∀ k d, mget D k = some d → d ≤ names.length + 1 := by
    intro P
    induction P with
    | zero => intro D _ h; omega
    | succ P ih =>
      intro D hD hP
      by_cases hs : ∀ c p, c ∈ names → p ∈ up c → Stab D c p
      · exact ⟨D, hD.far hs hup, fun k d hd => Nat.le_trans (hD.bnd k d hd) hD.len⟩
      · have : ∃ c p, c ∈ names ∧ p ∈ up c ∧ better D c p = true := by
          refine Classical.byContradiction (fun hn => hs (fun c p hc hp => ?_))
          cases hb : better D c p with
          | false => exact hb
          | true => exact absurd ⟨c, p, hc, hp, hb⟩ hn
        obtain ⟨c, p, hc, hp, hb⟩ := this
        exact ih _ (hD.relax hc hp) (by have := pot_relax hD hc hp hb; omega)
  exact key _ _ (FarOk.start up names tg) (Nat.lt_succ_self _)
theorem dist_of_reach (hup : ∀ c p, p ∈ up c → c ∈ names) {n : Nat} {c a : ByteArray} (h : reach up n c a) : ∃ n', n' ≤ n ∧ distF up names.length c a = some n' := by
  obtain ⟨D, hD, hN⟩ := exists_far hup a
  obtain ⟨d, h1, h2⟩ := hD.min n c h
  have h3 := hD.dist hN c
  rw [h1] at h3
  cases hq : distF up names.length c a with
  | none => rw [hq] at h3; cases h3
  | some n' => rw [hq] at h3; simp at h3; exact ⟨n', by omega, rfl⟩
def Acyc (up : ByteArray → List ByteArray) : Prop := ∀ n c, ¬ reach up (n + 1) c c
theorem acyc_of_dist (hup : ∀ c p, p ∈ up c → c ∈ names) (h : ∀ c, c ∈ names → ∀ p, p ∈ up c → distF up names.length p c = none) : Acyc up := by
  rintro n c ⟨p, hp, hr⟩
  obtain ⟨n', _, h2⟩ := dist_of_reach hup hr
  rw [h c (hup c p hp) p hp] at h2
  cases h2
theorem filter_len_lt {α : Type} {q r : α → Bool} (h : ∀ x, q x = true → r x = true) : ∀ (l : List α) (y : α), y ∈ l → r y = true → q y = false → (l.filter q).length < (l.filter r).length := by
  have hle : ∀ (l : List α), (l.filter q).length ≤ (l.filter r).length := by
    intro l
    induction l with
    | nil => simp
    | cons x l ih =>
      simp only [List.filter_cons]
      cases hq : q x with
      | true => rw [h x hq]; simp; exact ih
      | false => cases r x <;> simp <;> omega
  intro l
  induction l with
  | nil => intro y hy; cases hy
  | cons x l ih =>
    intro y hy hr hq
    simp only [List.filter_cons]
    rcases List.mem_cons.1 hy with e | hy'
    · subst e
      rw [hr, hq]
      have := hle l
      simp; omega
    · have h1 := ih y hy' hr hq
      cases hqx : q x with
      | true => rw [h x hqx]; simp; exact h1
      | false => cases r x <;> simp <;> omega
theorem exists_rank (hup : ∀ c p, p ∈ up c → p ∈ names) (h : Acyc up) : ∃ rk : ByteArray → Nat, (∀ c p, p ∈ up c → rk p < rk c) ∧ ∀ c, rk c ≤ names.length := by
  classical
  refine ⟨fun c => (names.filter (fun x => decide (∃ n, reach up (n + 1) c x))).length, fun c p hp => ?_, fun c => List.length_filter_le _ _⟩
  refine filter_len_lt (fun x hx => ?_) names p (hup c p hp) ?_ ?_
  · rw [decide_eq_true_iff] at hx ⊢
    obtain ⟨n, hn⟩ := hx
    exact ⟨n + 1, p, hp, hn⟩
  · rw [decide_eq_true_iff]
    exact ⟨0, p, hp, rfl⟩
  · rw [decide_eq_false_iff_not]
    rintro ⟨n, hn⟩
    exact h n p hn
end
theorem shortF_nil {up : ByteArray → List ByteArray} {N : Nat} {a c : ByteArray} : (shortF up N a c).isEmpty = true ↔ distF up N c a = none := by
  unfold shortF
  cases distF up N c a with
  | none => simp
  | some n => cases n <;> simp [wayF]
theorem ringStep_ne {up : ByteArray → List ByteArray} {N : Nat} {c p : ByteArray} {b : List ByteArray} : ringStep up N c b p = [] ↔ b = [] ∧ distF up N p c = none := by
  unfold ringStep
  by_cases h : (shortF up N c p).isEmpty = true
  · rw [if_pos h]
    simp [shortF_nil.1 h]
  · rw [if_neg h]
    have h' : ¬ distF up N p c = none := fun e => h (shortF_nil.2 e)
    by_cases hb : b = []
    · subst hb; simp [ringLess, h']
    · split <;> simp [hb, h']
theorem ringFold_nil {up : ByteArray → List ByteArray} {N : Nat} {c : ByteArray} : ∀ (ps : List ByteArray) (b : List ByteArray), ps.foldl (ringStep up N c) b = [] ↔ b = [] ∧ ∀ p ∈ ps, distF up N p c = none := by
  intro ps
  induction ps with
  | nil => intro b; simp
  | cons p ps ih => intro b; simp only [List.foldl_cons, ih, ringStep_ne, List.mem_cons, forall_eq_or_imp]; exact and_assoc
theorem ringOf_nil {l : List S61} : ringOf l = [] ↔ ∀ c, c ∈ names l → ∀ p, p ∈ ups l c → distF (ups l) l.length p c = none := by
  have key : ∀ (cs : List ByteArray) (b : List ByteArray), cs.foldl (fun b c => (ups l c).foldl (ringStep (ups l) l.length c) b) b = [] ↔ b = [] ∧ ∀ c ∈ cs, ∀ p ∈ ups l c, distF (ups l) l.length p c = none := by
    intro cs
    induction cs with
    | nil => intro b; simp
    | cons c cs ih => intro b; simp only [List.foldl_cons, ih, ringFold_nil, List.mem_cons, forall_eq_or_imp]; exact and_assoc
  exact ⟨fun e => ((key (names l) []).1 e).2, fun h => (key (names l) []).2 ⟨rfl, h⟩⟩
theorem names_len (l : List S61) : (names l).length = l.length := by simp [names]
theorem acyc_of_ring {l : List S61} (h : ringOf l = []) : Acyc (ups l) := by
  refine acyc_of_dist (names := names l) (fun c p hp => (ups_mem hp).1) (fun c hc p hp => ?_)
  rw [names_len]
  exact ringOf_nil.1 h c hc p hp
theorem rank_of_ring {l : List S61} (h : ringOf l = []) : ∃ rk : ByteArray → Nat, (∀ c p, p ∈ ups l c → rk p < rk c) ∧ ∀ c, rk c < l.length + 1 := by
  obtain ⟨rk, h1, h2⟩ := exists_rank (up := ups l) (names := names l) (fun c p hp => (ups_mem hp).2) (acyc_of_ring h)
  exact ⟨rk, h1, fun c => by have := h2 c; rw [names_len] at this; omega⟩
end Go.Proofs.Ytdljclokenoogaa.Hw
end
section
namespace Go.Proofs.Ytdljclokenoogaa.Hw
open Go.RowKit Go.Proofs.Ytdljclokenoogaa.Hp Go.Proofs.YtdljclokenoogaaW.PrintWords Go.Proofs.YtdljclokenoogaaW.PrintLast Go.Proofs.YtdljclokenoogaaW.PrintMore
attribute [local go_sem] Oper.semAt_some
attribute [local go_sem high] run_eqnil run_nenil
theorem lit1 (W : World) (a : ByteArray) : Kd.string.C (W.alloc (.cells #[.string a] 9)) (some ⟨W.heap.size, 0, none⟩) [a].length [a] := by
  obtain ⟨A, c, e, _, hC⟩ := (Row.lit W W.heap.size (fun _ => True) a (Nat.le_refl _) trivial).reads
  cases e
  exact hC
theorem lit2 (W : World) (a b : ByteArray) : Kd.string.C (W.alloc (.cells #[.string a, .string b] 9)) (some ⟨W.heap.size, 0, none⟩) [a, b].length [a, b] := by
  have hR : Kd.string.R 9 (W.alloc (.cells #[.string a, .string b] 9)) W.heap.size (fun _ => True) (.slice (some ⟨W.heap.size, 0, none⟩) 2 2) [a, b] :=
    Kd.R_of_own ⟨rfl, .inr ⟨W.heap.size, 2, _, rfl, Nat.le_refl _, heap_alloc_new W _, Nat.le_refl _, by decide, rfl, rfl⟩⟩ (fun _ _ => trivial)
  obtain ⟨A, c, e, _, hC⟩ := Kd.R_reads hR
  cases e
  exact hC
theorem checkOk {l : List S61} (h : (checkOf l).1 = 0) : l.length ≤ 24 ∧ (∀ j, j < l.length → aloneOf l j = 0) ∧ (∀ j, j < l.length → lonelyOf l j = false) ∧ ringOf l = [] := by
  unfold checkOf at h
  split at h
  · cases h
  · rename_i hl
    cases h1 : (List.range l.length).find? (fun i => decide (aloneOf l i ≠ 0)) with
    | some i =>
      rw [h1] at h
      have := List.find?_some h1
      simp at this
      exact absurd h this
    | none =>
      rw [h1] at h
      simp only at h
      cases h2 : (List.range l.length).find? (lonelyOf l) with
      | some i => rw [h2] at h; cases h
      | none =>
        rw [h2] at h
        simp only at h
        rw [List.find?_eq_none] at h1 h2
        refine ⟨by omega, fun j hj => ?_, fun j hj => ?_, ?_⟩
        · have := h1 j (by simpa using hj); simpa using this
        · have := h2 j (by simpa using hj); simpa using this
        · cases hr : ringOf l with
          | nil => rfl
          | cons r rt => rw [hr] at h; cases h
theorem checkOk_up {l : List S61} (h : ∀ j, j < l.length → aloneOf l j = 0) : ∀ x ∈ l, x.f3.length ≤ 1100000000000 := by
  intro x hx
  obtain ⟨j, hj, e⟩ := List.mem_iff_getElem.1 hx
  have h1 := h j hj
  have e2 : rd_T61 l (j : Int) = x := by simp [rd_T61, hj, e]
  unfold aloneOf at h1
  rw [e2] at h1
  split at h1
  · cases h1
  · omega
def anc (l : List S61) (c : ByteArray) : List ByteArray := vis (ups l) (l.length + 1) c []
theorem askedOk {l : List S61} {ns : List ByteArray} (h : askedOf l ns = 0) : (checkOf l).1 = 0 ∧ ∀ s ∈ ns, s ∈ names l := by
  unfold askedOf at h
  split at h
  · rename_i h1; exact absurd h h1
  · rename_i h1
    refine ⟨by simpa using h1, ?_⟩
    split at h
    · rename_i h2
      intro s hs
      exact idx_mem.1 (List.all_eq_true.1 h2 s hs)
    · cases h
def aboveOf (l : List S61) (c : ByteArray) : List ByteArray × Int := if askedOf l [c] = 0 then (anc l c, 0) else ([], askedOf l [c])
def isOf (l : List S61) (c a : ByteArray) : Bool × Int := if askedOf l [c, a] = 0 then (memS (anc l c) a, 0) else (false, askedOf l [c, a])
set_option maxRecDepth 100000 in
set_option maxHeartbeats 4000000 in
theorem is_calls (A0 : Option Addr) (c0 : Nat) (l : List S61) (c a : ByteArray) (w : World) (hr : k61.C w A0 l.length l) (hc : l.length ≤ c0) :
    Calls Try.prog 40 #[.slice A0 l.length c0, .string c, .string a] w fun e w' => e = .returned (.tuple #[.bool (isOf l c a).1, .int .i64 (isOf l c a).2]) ∧ Below w.heap.size w w' := by
  refine (callsIn_wide (n := 20)).1 ?_
  refine callsIn_of_wp Try.func40 rfl trivial ?_
  simp only [Try.ntmps40, List.size_toArray, List.length_cons, List.length_nil, Nat.reduceAdd, Nat.reduceSub, Array.replicate_succ, Array.replicate_zero, List.push_toArray, List.append_toArray, List.nil_append, List.cons_append]
  have HR := Lib.hid hr
  clear hr
  have hb0 : Below w.heap.size w (w.alloc (.cells #[.string c, .string a] 9)) := (Below.refl _ _).alloc (Nat.le_refl _) _
  have HL := Lib.hid (lit2 w c a)
  gi_wp2_with fail
  refine (callsIn_wide.2 (right_calls A0 (some ⟨w.heap.size, 0, none⟩) c0 2 l [c, a] _ (Kd.C_below HR.out hb0) hc HL.out)).mono ?_
  rintro e w1 ⟨hb1, ⟨he, rfl⟩ | ⟨he, B, m, rfl, hBB, hM, hK⟩⟩
  · have hB1 := hb0.trans (hb1.mono (by simp))
    obtain ⟨er, her⟩ : ∃ er, askedOf l [c, a] = er := ⟨_, rfl⟩
    have hio : isOf l c a = (false, er) := by unfold isOf; rw [if_neg he, her]
    rw [her] at he ⊢
    have heb : (er != 0) = true := by simpa using he
    have HIO := Lib.hid hio
    clear her hio he
    gi_wp2_with fail
    go_ret2
    exact ⟨by rw [HIO.out]; rfl, by first | exact hB1 | exact hB1.alloc hB1.size _⟩
  · have hB1 := hb0.trans (hb1.mono (by simp))
    have hio : isOf l c a = (memS (anc l c) a, 0) := by unfold isOf; rw [if_pos he]
    obtain ⟨hck, hns⟩ := askedOk he
    obtain ⟨hl, hal, _, hrg⟩ := checkOk hck
    obtain ⟨rk, hrk, hrn⟩ := rank_of_ring hrg
    have hBL : Below w.heap.size w (w1.alloc (.cells #[.slice A0 l.length c0, .map (some B)] 99)) := hB1.alloc hB1.size _
    have hcall := has_calls A0 c0 B l m c a (w1.alloc (.cells #[.slice A0 l.length c0, .map (some B)] 99)) (Kd.C_below HR.out hBL) hc (by omega) (checkOk_up hal) (hM.alloc _) hK rk hrk (l.length + 1) (hrn c) (hns c (by simp))
    have HC := Lib.hid hcall
    have HIO := Lib.hid hio
    clear hcall hio he hM hK hrk hns hal hck hrg hrn
    gi_wp2_with (gi_at_call 70; refine (callsIn_wide.2 HC.out).mono ?_; rintro e w2 ⟨rfl, hb2⟩)
    go_ret2
    exact ⟨by rw [HIO.out]; rfl, hBL.trans (hb2.mono hBL.size)⟩
set_option maxRecDepth 100000 in
set_option maxHeartbeats 4000000 in
theorem aboveApi_calls (A0 : Option Addr) (c0 : Nat) (l : List S61) (c : ByteArray) (w : World) (hr : k61.C w A0 l.length l) (hc : l.length ≤ c0) :
    Calls Try.prog 34 #[.slice A0 l.length c0, .string c] w fun e w' => ∃ v, e = .returned (.tuple #[v, .int .i64 (aboveOf l c).2]) ∧ Row w' w.heap.size (fun _ => True) v (aboveOf l c).1 ∧ Below w.heap.size w w' := by
  refine (callsIn_wide (n := 20)).1 ?_
  refine callsIn_of_wp Try.func34 rfl trivial ?_
  simp only [Try.ntmps34, List.size_toArray, List.length_cons, List.length_nil, Nat.reduceAdd, Nat.reduceSub, Array.replicate_succ, Array.replicate_zero, List.push_toArray, List.append_toArray, List.nil_append, List.cons_append]
  have HR := Lib.hid hr
  clear hr
  have hb0 : Below w.heap.size w (w.alloc (.cells #[.string c] 9)) := (Below.refl _ _).alloc (Nat.le_refl _) _
  have HL := Lib.hid (lit1 w c)
  gi_wp2_with fail
  refine (callsIn_wide.2 (right_calls A0 (some ⟨w.heap.size, 0, none⟩) c0 1 l [c] _ (Kd.C_below HR.out hb0) hc HL.out)).mono ?_
  rintro e w1 ⟨hb1, ⟨he, rfl⟩ | ⟨he, B, m, rfl, hBB, hM, hK⟩⟩
  · have hB1 := hb0.trans (hb1.mono (by simp))
    obtain ⟨er, her⟩ : ∃ er, askedOf l [c] = er := ⟨_, rfl⟩
    have hio : aboveOf l c = ([], er) := by unfold aboveOf; rw [if_neg he, her]
    rw [her] at he ⊢
    have heb : (er != 0) = true := by simpa using he
    have HIO := Lib.hid hio
    clear her hio he
    gi_wp2_with fail
    go_ret2
    exact ⟨.slice none 0 0, by rw [HIO.out]; rfl, by rw [HIO.out]; exact Row.nil _ _ _, by first | exact hB1 | exact hB1.alloc hB1.size _⟩
  · have hB1 := hb0.trans (hb1.mono (by simp))
    have hio : aboveOf l c = (anc l c, 0) := by unfold aboveOf; rw [if_pos he]
    obtain ⟨hck, hns⟩ := askedOk he
    obtain ⟨hl, hal, _, hrg⟩ := checkOk hck
    obtain ⟨rk, hrk, hrn⟩ := rank_of_ring hrg
    have hBL : Below w.heap.size w (w1.alloc (.cells #[.slice A0 l.length c0, .map (some B)] 99)) := hB1.alloc hB1.size _
    have hcall := above_calls A0 c0 B l m c (w1.alloc (.cells #[.slice A0 l.length c0, .map (some B)] 99)) (Kd.C_below HR.out hBL) hc (by omega) (checkOk_up hal) (hM.alloc _) hK rk hrk (l.length + 1) (hrn c) (hns c (by simp))
    have HC := Lib.hid hcall
    have HIO := Lib.hid hio
    clear hcall hio he hM hK hrk hns hal hck hrg hrn
    gi_wp2_with (gi_at_call 68; refine (callsIn_wide.2 HC.out).mono ?_; rintro e w2 ⟨v, rfl, hR2, hb2⟩)
    go_ret2
    exact ⟨v, by rw [HIO.out]; rfl, by rw [HIO.out]; exact ⟨Kd.R_lower hR2.1 hBL.size, hR2.2⟩, hBL.trans (hb2.mono hBL.size)⟩
def wayOf (l : List S61) (c a : ByteArray) : List ByteArray × Int := if askedOf l [c, a] = 0 then (if (shortF (ups l) l.length a c).isEmpty then ([], 5) else (shortF (ups l) l.length a c, 0)) else ([], askedOf l [c, a])
set_option maxRecDepth 100000 in
set_option maxHeartbeats 4000000 in
theorem way_calls (A0 : Option Addr) (c0 : Nat) (l : List S61) (c a : ByteArray) (w : World) (hr : k61.C w A0 l.length l) (hc : l.length ≤ c0) :
    Calls Try.prog 49 #[.slice A0 l.length c0, .string c, .string a] w fun e w' => ∃ v, e = .returned (.tuple #[v, .int .i64 (wayOf l c a).2]) ∧ Row w' w.heap.size (fun _ => True) v (wayOf l c a).1 ∧ Below w.heap.size w w' := by
  refine (callsIn_wide (n := 20)).1 ?_
  refine callsIn_of_wp Try.func49 rfl trivial ?_
  simp only [Try.ntmps49, List.size_toArray, List.length_cons, List.length_nil, Nat.reduceAdd, Nat.reduceSub, Array.replicate_succ, Array.replicate_zero, List.push_toArray, List.append_toArray, List.nil_append, List.cons_append]
  have HR := Lib.hid hr
  clear hr
  have hb0 : Below w.heap.size w (w.alloc (.cells #[.string c, .string a] 9)) := (Below.refl _ _).alloc (Nat.le_refl _) _
  have HL := Lib.hid (lit2 w c a)
  gi_wp2_with fail
  refine (callsIn_wide.2 (right_calls A0 (some ⟨w.heap.size, 0, none⟩) c0 2 l [c, a] _ (Kd.C_below HR.out hb0) hc HL.out)).mono ?_
  rintro e w1 ⟨hb1, ⟨he, rfl⟩ | ⟨he, B, m, rfl, hBB, hM, hK⟩⟩
  · have hB1 := hb0.trans (hb1.mono (by simp))
    obtain ⟨er, her⟩ : ∃ er, askedOf l [c, a] = er := ⟨_, rfl⟩
    have hio : wayOf l c a = ([], er) := by unfold wayOf; rw [if_neg he, her]
    rw [her] at he ⊢
    have heb : (er != 0) = true := by simpa using he
    have HIO := Lib.hid hio
    clear her hio he
    gi_wp2_with fail
    go_ret2
    exact ⟨.slice none 0 0, by rw [HIO.out]; rfl, by rw [HIO.out]; exact Row.nil _ _ _, by first | exact hB1 | exact hB1.alloc hB1.size _⟩
  · have hB1 := hb0.trans (hb1.mono (by simp))
    have hio : wayOf l c a = (if (shortF (ups l) l.length a c).isEmpty then ([], 5) else (shortF (ups l) l.length a c, 0)) := by unfold wayOf; rw [if_pos he]
    obtain ⟨hck, hns⟩ := askedOk he
    obtain ⟨hl, hal, _, hrg⟩ := checkOk hck
    have hBL : Below w.heap.size w (w1.alloc (.cells #[.slice A0 l.length c0, .map (some B)] 99)) := hB1.alloc hB1.size _
    have hcall := shortest_calls A0 c0 B l m c a (w1.alloc (.cells #[.slice A0 l.length c0, .map (some B)] 99)) (Kd.C_below HR.out hBL) hc (by omega) (checkOk_up hal) (hM.alloc _) hK
    have HC := Lib.hid hcall
    clear hcall he hM hK hns hal hck hrg
    gi_wp2_with fail
    refine (callsIn_wide.2 HC.out).mono ?_
    rintro e w2 ⟨v, rfl, hR2, hb2⟩
    cases hs : shortF (ups l) l.length a c with
    | nil =>
      rw [hs] at hR2 hio
      obtain rfl := hR2.2 rfl
      have HIO := Lib.hid hio
      clear hio hs
      gi_wp2_with fail
      go_ret2
      exact ⟨_, by rw [HIO.out]; rfl, by rw [HIO.out]; exact Row.nil _ _ _, hBL.trans (hb2.mono hBL.size)⟩
    | cons x t =>
      rw [hs] at hR2 hio
      obtain ⟨g, cp, rfl⟩ := hR2.form (by simp)
      have HIO := Lib.hid hio
      clear hio hs
      gi_wp2_with fail
      go_ret2
      exact ⟨_, by rw [HIO.out]; rfl, by rw [HIO.out]; exact ⟨Kd.R_lower hR2.1 hBL.size, hR2.2⟩, hBL.trans (hb2.mono hBL.size)⟩
end Go.Proofs.Ytdljclokenoogaa.Hw
end
section
namespace Go.Proofs.Ytdljclokenoogaa.Hw
open Go.RowKit Go.Proofs.Ytdljclokenoogaa.Hp Go.Proofs.YtdljclokenoogaaW.PrintWords Go.Proofs.YtdljclokenoogaaW.PrintLast Go.Proofs.YtdljclokenoogaaW.PrintMore
attribute [local go_sem] Oper.semAt_some
theorem C_lit {α : Type} (d : Kd α) (W : World) (e : TypeId) (xs : List α) (inner : List Value) (hm : xs.length ≤ 9223372036854775807) (h : Reps (d.K W) d.sz xs inner) : d.C (W.alloc (.cells inner.toArray e)) (some ⟨W.heap.size, 0, none⟩) xs.length xs := by
  have hb : Below W.heap.size W (W.alloc (.cells inner.toArray e)) := (Below.refl _ _).alloc (Nat.le_refl _) _
  refine ⟨rfl, hm, fun _ => ⟨_, rfl, fun j p hj => ⟨(inner.drop (j * d.sz)).take d.sz, ?_, d.K_below hb (h.2 j p hj), fun i u hu => ?_⟩⟩⟩
  · exact d.K_len (h.2 j p hj)
  · have h1 : (⟨W.heap.size, 0, none⟩ : Addr).add (j * d.sz + i) = ⟨W.heap.size, j * d.sz + i, none⟩ := by rw [add_at, Nat.zero_add]
    rw [h1, cell_new]
    rw [List.getElem?_take] at hu
    split at hu
    · rw [List.getElem?_drop] at hu
      rw [← hu]; exact List.getElem?_toArray ..
    · cases hu
def pr (n : ByteArray) : S65 := ⟨n, [], [], [], [], []⟩
def litC (n : ByteArray) (ps : List ByteArray) : S61 := ⟨n, false, [], ps.map pr, [], [], []⟩
abbrev cA : ByteArray := ⟨#[65]⟩
abbrev cB : ByteArray := ⟨#[66]⟩
abbrev cC : ByteArray := ⟨#[67]⟩
abbrev cD : ByteArray := ⟨#[68]⟩
abbrev cE : ByteArray := ⟨#[69]⟩
def five : List S61 := [litC cA [], litC cB [cA], litC cC [cA], litC cD [cB, cC], litC cE [cD, cA]]
theorem below_of_alloc {w1 W : World} {o : Obj} (hb : Below (w1.alloc o).heap.size (w1.alloc o) W) : Below w1.heap.size w1 W := ((Below.refl _ _).alloc (Nat.le_refl _) o).trans (hb.mono (by simp))
theorem class_made (n : ByteArray) (A : Option Addr) (c : Nat) (ps : List ByteArray) (w : World) (hr : Kd.string.C w A ps.length ps) (hc : ps.length ≤ c) (h : cosignerlaw03_class.f 9 n ps = some (n, false, [], ps.map pr, [], [], [])) :
    Calls Try.prog 54 #[.string n, .slice A ps.length c] w fun e w' => ∃ A2 c2 A3 c3 A4 c4 A5 c5 A6 c6, e = .returned (.agg #[.string n, .bool false, .slice A2 0 c2, .slice A3 ps.length c3, .slice A4 0 c4, .slice A5 0 c5, .slice A6 0 c6]) ∧
      k61.K w' (litC n ps) [.string n, .bool false, .slice A2 0 c2, .slice A3 ps.length c3, .slice A4 0 c4, .slice A5 0 c5, .slice A6 0 c6] ∧ Below w.heap.size w w' := by
  refine (cosignerlaw03_class.calls 9 n A c ps _ _ _ _ _ _ _ w hr hc h).mono ?_
  rintro e w' ⟨v2, v3, v4, v5, v6, rfl, h2, h3, h4, h5, h6, hb⟩
  obtain ⟨A2, c2, rfl, l2, g2⟩ := Kd.R_reads h2
  obtain ⟨A3, c3, rfl, l3, g3⟩ := Kd.R_reads h3
  obtain ⟨A4, c4, rfl, l4, g4⟩ := Kd.R_reads h4
  obtain ⟨A5, c5, rfl, l5, g5⟩ := Kd.R_reads h5
  obtain ⟨A6, c6, rfl, l6, g6⟩ := Kd.R_reads h6
  have hl : (ps.map pr).length = ps.length := List.length_map _
  refine ⟨A2, c2, A3, c3, A4, c4, A5, c5, A6, c6, by rw [hl]; rfl, ?_, hb⟩
  have := k61_mk w' (litC n ps) l2 g2 l3 g3 l4 g4 l5 g5 l6 g6
  have hl2 : (litC n ps).f3.length = ps.length := hl
  rw [hl2] at this
  exact this
theorem str_reps (W : World) (xs : List ByteArray) : Reps (Kd.string.K W) Kd.string.sz xs (xs.map (fun x => .string x)) := by
  induction xs with
  | nil => exact Reps.none _ _
  | cons x xs ih => exact Reps.one rfl ih
theorem C_strs (W : World) (xs : List ByteArray) (hm : xs.length ≤ 9223372036854775807) : Kd.string.C (W.alloc (.cells (xs.map (fun x => Value.string x)).toArray 9)) (some ⟨W.heap.size, 0, none⟩) xs.length xs := C_lit _ _ _ _ _ hm (str_reps W xs)
set_option maxRecDepth 100000 in
set_option maxHeartbeats 8000000 in
theorem five_calls (w : World) : Calls Try.prog 53 #[] w fun e w' => ∃ A, e = .returned (.slice A 5 5) ∧ k61.C w' A 5 five ∧ Below w.heap.size w w' := by
  refine (callsIn_wide (n := 20)).1 ?_
  refine callsIn_of_wp Try.func53 rfl trivial ?_
  simp only [Try.ntmps53, List.size_toArray, List.length_cons, List.length_nil, Nat.reduceAdd, Nat.reduceSub, Array.replicate_succ, Array.replicate_zero, List.push_toArray, List.append_toArray, List.nil_append, List.cons_append]
  gi_wp2_with fail
  refine (callsIn_wide.2 (class_made cA none 0 [] w (Kd.C_nil _ _) (Nat.le_refl _) (by kernel_rfl))).mono ?_
  rintro e w1 ⟨A2, c2, A3, c3, A4, c4, A5, c5, A6, c6, rfl, hK1, hb1⟩
  have hC1 := C_strs w1 [cA] (by decide)
  have HK1 := Lib.hid hK1
  clear hK1
  gi_wp2_with fail
  refine (callsIn_wide.2 (class_made cB _ 1 [cA] _ hC1 (Nat.le_refl _) (by kernel_rfl))).mono ?_
  rintro e w2 ⟨B2, d2, B3, d3, B4, d4, B5, d5, B6, d6, rfl, hK2, hb2⟩
  have hb2 := below_of_alloc hb2
  have hB2 := hb1.trans (hb2.mono hb1.size)
  have HK1' := Lib.hid (k61.K_below hb2 HK1.out)
  have HK2 := Lib.hid hK2
  have hC2 := C_strs w2 [cA] (by decide)
  clear hK2 HK1 hC1 hb1 hb2
  gi_wp2_with fail
  refine (callsIn_wide.2 (class_made cC _ 1 [cA] _ hC2 (Nat.le_refl _) (by kernel_rfl))).mono ?_
  rintro e w3 ⟨F2, f2, F3, f3, F4, f4, F5, f5, F6, f6, rfl, hK3, hb3⟩
  have hb3 := below_of_alloc hb3
  have hB3 := hB2.trans (hb3.mono hB2.size)
  have HK1 := Lib.hid (k61.K_below hb3 HK1'.out)
  have HK2' := Lib.hid (k61.K_below hb3 HK2.out)
  have HK3 := Lib.hid hK3
  have hC3 := C_strs w3 [cB, cC] (by decide)
  clear hK3 HK1' HK2 hC2 hb3 hB2
  gi_wp2_with fail
  refine (callsIn_wide.2 (class_made cD _ 2 [cB, cC] _ hC3 (Nat.le_refl _) (by kernel_rfl))).mono ?_
  rintro e w4 ⟨G2, g2, G3, g3, G4, g4, G5, g5, G6, g6, rfl, hK4, hb4⟩
  have hb4 := below_of_alloc hb4
  have hB4 := hB3.trans (hb4.mono hB3.size)
  have HK1' := Lib.hid (k61.K_below hb4 HK1.out)
  have HK2 := Lib.hid (k61.K_below hb4 HK2'.out)
  have HK3' := Lib.hid (k61.K_below hb4 HK3.out)
  have HK4 := Lib.hid hK4
  have hC4 := C_strs w4 [cD, cA] (by decide)
  clear hK4 HK1 HK2' HK3 hC3 hb4 hB3
  gi_wp2_with fail
  refine (callsIn_wide.2 (class_made cE _ 2 [cD, cA] _ hC4 (Nat.le_refl _) (by kernel_rfl))).mono ?_
  rintro e w5 ⟨H2, h2, H3, h3, H4, h4, H5, h5, H6, h6, rfl, hK5, hb5⟩
  have hb5 := below_of_alloc hb5
  have hB5 := hB4.trans (hb5.mono hB4.size)
  have HK1 := Lib.hid (k61.K_below hb5 HK1'.out)
  have HK2' := Lib.hid (k61.K_below hb5 HK2.out)
  have HK3 := Lib.hid (k61.K_below hb5 HK3'.out)
  have HK4' := Lib.hid (k61.K_below hb5 HK4.out)
  have HK5 := Lib.hid hK5
  clear hK5 HK1' HK2 HK3' HK4 hC4 hb5 hB4
  gi_wp2_with fail
  go_ret
  refine ⟨_, rfl, ?_, hB5.alloc hB5.size _⟩
  exact C_lit k61 w5 61 five _ (by decide) (Reps.c7 HK1.out (Reps.c7 HK2'.out (Reps.c7 HK3.out (Reps.c7 HK4'.out (Reps.c7 HK5.out (Reps.none _ _))))))
end Go.Proofs.Ytdljclokenoogaa.Hw
end
section
namespace Go.Proofs.Ytdljclokenoogaa.Hw
open Go.RowKit Go.Proofs.Ytdljclokenoogaa.Hp Go.Proofs.YtdljclokenoogaaW.PrintWords Go.Proofs.YtdljclokenoogaaW.PrintLast Go.Proofs.YtdljclokenoogaaW.PrintMore
def FlatK {α : Type} (d : Kd α) : Prop := d.E = [] ∧ ∀ (w w' : World) (base base' : Nat) (ok ok' : Nat → Prop) (x : α) (cs : List Value), d.M w base ok x cs → d.M w' base' ok' x cs
def RowK {α : Type} (d : Kd α) (e : TypeId) (W : World) (base : Nat) (v : Value) (xs : List α) : Prop := d.R e W base (fun _ => True) v xs ∧ (xs = [] → v = .slice none 0 0)
section
variable {α : Type} {d : Kd α} {e : TypeId} {W W' : World} {base : Nat} {v : Value} {xs : List α}
theorem RowK.nil (d : Kd α) (e : TypeId) (W : World) (base : Nat) : RowK d e W base (.slice none 0 0) [] := ⟨Kd.R_nil _ _ _ _ _, fun _ => rfl⟩
theorem RowK.blocks (h : RowK d e W base v xs) : ∀ k, v.ownBlock = some k → base ≤ k ∧ k < W.heap.size ∧ ∃ cells, W.heap[k]? = some (.cells cells e (0, 0)) :=
  fun k hk => ⟨Kd.R_base h.1 k hk, Kd.R_lt h.1 k hk, Kd.R_typed h.1 k hk⟩
theorem RowK.step (hf : FlatK d) (h : RowK d e W base v xs) (hm : ∀ k, v.ownBlock = some k → W'.heap[k]? = W.heap[k]?) : RowK d e W' base v xs := by
  obtain ⟨⟨_, inner, ho, hr⟩, hn⟩ := h
  exact ⟨⟨fun _ _ => trivial, inner, own_move ho hm, hr.imp_ (fun _ _ hp => hf.2 _ _ _ _ _ _ _ _ hp)⟩, hn⟩
theorem RowK.later (hf : FlatK d) (h : RowK d e W base v xs) (hb : Below W.heap.size W W') : RowK d e W' base v xs := h.step hf (fun k hk => hb.block k (h.blocks k hk).2.1)
theorem RowK.alloc (hf : FlatK d) (h : RowK d e W base v xs) (o : Obj) : RowK d e (W.alloc o) base v xs := h.later hf ((Below.refl _ _).alloc (Nat.le_refl _) _)
theorem RowK.setCell (hf : FlatK d) (h : RowK d e W base v xs) (p : Addr) (hp : p.block < base) (u : Value) : RowK d e (W.setCell p u) base v xs :=
  h.step hf (fun k hk => Below.heap_setCell _ _ _ _ (fun e => by have := (h.blocks k hk).1; omega))
theorem RowK.reads (h : RowK d e W base v xs) : ∃ A c, v = .slice A xs.length c ∧ xs.length ≤ c ∧ d.C W A xs.length xs := Kd.R_reads h.1
theorem RowK.form (h : RowK d e W base v xs) (hne : xs ≠ []) : ∃ g c, v = .slice (some ⟨g, 0, none⟩) xs.length c := by
  obtain ⟨g, c, e, _⟩ := Kd.R_form h.1 (List.length_pos_iff.2 hne)
  exact ⟨g, c, e⟩
theorem RowK.oth {H : Nat} (hf : FlatK d) (hL : Oth H W W') (h : RowK d e W base v xs) : RowK d e W' base v xs := h.step hf (fun k hk => by obtain ⟨_, _, cells, hc⟩ := h.blocks k hk; exact hL.block k (.inr ⟨_, hc, rfl⟩))
theorem RowK.left {H : Nat} (hf : FlatK d) (hL : Left H W W') (h : RowK d e W base v xs) : RowK d e W' base v xs := h.step hf (fun k hk => by obtain ⟨_, _, cells, hc⟩ := h.blocks k hk; exact hL.block k (.inr ⟨_, hc, rfl⟩))
theorem RowK.lower {base' : Nat} (h : RowK d e W base v xs) (hb : base' ≤ base) : RowK d e W base' v xs := ⟨Kd.R_lower h.1 hb, h.2⟩
end
theorem flat73 : FlatK k73 := ⟨rfl, fun _ _ _ _ _ _ _ _ h => h⟩
theorem info_l : (Try.prog.info? 73).map (fun i => (i.zero, i.size, i.bytes)) = some (some (.agg #[.string ⟨#[]⟩, .string ⟨#[]⟩]), 2, 32) := by kernel_rfl
section
variable {F : Fence} {nF : Nat} {ops : Array Oper} {rest : List Oper} {o : Oper} {a : Act} {Q : Exit → Act → World → Prop}
theorem RowL_push {W : World} (base : Nat) (hgd : o.guard = none) (s x : Operand) (ho : o.op = .call { callee := .builtin .append, args := #[s, x], argTypes := #[43, 43] })
    (v : Value) (xs : List S73) (p q : ByteArray) (hs : a.eval s = v) (hx : a.eval x = .slice (some ⟨W.heap.size, 0, none⟩) 1 1)
    (HO : RowK k73 73 W base v xs) (hbase : base ≤ W.heap.size) (hl : xs.length ≤ 1100000000000)
    (h : ∀ g c w1, RowK k73 73 w1 base (.slice (some ⟨g, 0, none⟩) (xs.length + 1) c) (xs ++ [⟨p, q⟩]) → W.grownBy w1 v.ownBlock → (some g = v.ownBlock ∨ W.heap.size ≤ g) → wpListIn F nF Try.prog ops Q rest (a.put o.dst (.slice (some ⟨g, 0, none⟩) (xs.length + 1) c)) w1) :
    wpListIn F nF Try.prog ops Q (o :: rest) a (W.alloc (.cells #[.string p, .string q] 73)) := by
  refine R_push k73 base hgd s x 43 73 (.agg #[.string ⟨#[]⟩, .string ⟨#[]⟩]) 32 ho Try.underlying43 info_l rfl (by decide) (by decide) v xs ⟨p, q⟩ [.string p, .string q] (fun _ => True) (fun _ => False) hs hx ⟨[.string p], [.string q], rfl, rfl, rfl⟩ (fun _ h => h.elim) (fun _ _ => trivial) HO.1 hbase (by omega) ?_
  intro v1 w1 hR hg hat
  obtain ⟨g, c, rfl, _⟩ := Kd.R_form hR (by simp)
  rw [List.length_append, List.length_singleton] at *
  refine h g c w1 ⟨hR, by simp⟩ hg ?_
  simpa [Value.ownBlock] using hat
end
end Go.Proofs.Ytdljclokenoogaa.Hw
end
section
namespace Go.Proofs
open Go.Shelf
def Try.lays190_ren : Go.Shelf.Ren := ⟨fun | 190 => 64 | 125 => 100 | 258 => 99 | 128 => 121 | 129 => 122 | 302 => 112 | 303 => 113 | 304 => 114 | 305 => 115 | 306 => 116 | 307 => 117 | 308 => 118 | 309 => 119 | 310 => 120 | 333 => 126 | 329 => 127 | 330 => 128 | 334 => 129 | 335 => 130 | 336 => 125 | 344 => 132 | n => n, fun | 31 => 25 | 9 => 9 | 3 => 3 | 46 => 136 | 0 => 0 | 51 => 155 | 53 => 157 | 4 => 4 | 183 => 149 | 182 => 148 | 131 => 125 | 5 => 5 | 218 => 159 | 222 => 163 | 228 => 166 | 229 => 167 | n => n, fun | n => n⟩
theorem Try.lays190 : Go.Proofs.Lays.n190 Try.prog Try.lays190_ren := {
  mixed := by kernel_rfl
  f125 := Try.func100.trans (congrArg some (by kernel_rfl))
  f128 := Try.func121.trans (congrArg some (by kernel_rfl))
  f129 := Try.func122.trans (congrArg some (by kernel_rfl))
  f190 := Try.func64.trans (congrArg some (by kernel_rfl))
  f258 := Try.func99.trans (congrArg some (by kernel_rfl))
  f302 := Try.func112.trans (congrArg some (by kernel_rfl))
  f303 := Try.func113.trans (congrArg some (by kernel_rfl))
  f304 := Try.func114.trans (congrArg some (by kernel_rfl))
  f305 := Try.func115.trans (congrArg some (by kernel_rfl))
  f306 := Try.func116.trans (congrArg some (by kernel_rfl))
  f307 := Try.func117.trans (congrArg some (by kernel_rfl))
  f308 := Try.func118.trans (congrArg some (by kernel_rfl))
  f309 := Try.func119.trans (congrArg some (by kernel_rfl))
  f310 := Try.func120.trans (congrArg some (by kernel_rfl))
  f329 := Try.func127.trans (congrArg some (by kernel_rfl))
  f330 := Try.func128.trans (congrArg some (by kernel_rfl))
  f333 := Try.func126.trans (congrArg some (by kernel_rfl))
  f334 := Try.func129.trans (congrArg some (by kernel_rfl))
  f335 := Try.func130.trans (congrArg some (by kernel_rfl))
  f336 := Try.func125.trans (congrArg some (by kernel_rfl))
  f344 := Try.func132.trans (congrArg some (by kernel_rfl))
  t0 := Try.underlying0
  a0 := Try.isAgg0
  z0 := Try.sizeOf0
  v0 := Try.zeroValue0
  t3 := Try.underlying3
  a3 := Try.isAgg3
  z3 := Try.sizeOf3
  v3 := Try.zeroValue3
  t4 := Try.underlying4
  a4 := Try.isAgg4
  z4 := Try.sizeOf4
  v4 := Try.zeroValue4
  t5 := Try.underlying5
  a5 := Try.isAgg5
  z5 := Try.sizeOf5
  v5 := Try.zeroValue5
  t9 := Try.underlying9
  a9 := Try.isAgg9
  z9 := Try.sizeOf9
  v9 := Try.zeroValue9
  t31 := Try.underlying25
  a31 := Try.isAgg25
  z31 := Try.sizeOf25
  v31 := Try.zeroValue25
  t46 := Try.underlying136
  a46 := Try.isAgg136
  z46 := Try.sizeOf136
  v46 := Try.zeroValue136
  t51 := Try.underlying155
  a51 := Try.isAgg155
  z51 := Try.sizeOf155
  v51 := Try.zeroValue155
  t53 := Try.underlying157
  a53 := Try.isAgg157
  z53 := Try.sizeOf157
  v53 := Try.zeroValue157
  t131 := Try.underlying125
  a131 := Try.isAgg125
  z131 := Try.sizeOf125
  v131 := Try.zeroValue125
  t182 := Try.underlying148
  a182 := Try.isAgg148
  z182 := Try.sizeOf148
  v182 := Try.zeroValue148
  t183 := Try.underlying149
  a183 := Try.isAgg149
  z183 := Try.sizeOf149
  v183 := Try.zeroValue149
  t218 := Try.underlying159
  a218 := Try.isAgg159
  z218 := Try.sizeOf159
  v218 := Try.zeroValue159
  t222 := Try.underlying163
  a222 := Try.isAgg163
  z222 := Try.sizeOf163
  v222 := Try.zeroValue163
  t228 := Try.underlying166
  a228 := Try.isAgg166
  z228 := Try.sizeOf166
  v228 := Try.zeroValue166
  t229 := Try.underlying167
  a229 := Try.isAgg167
  z229 := Try.sizeOf167
  v229 := Try.zeroValue167 }
open Go.Sort Go.RowKit in
theorem Try.slices_Sort_string (blk off cap : Nat) (ss : List (List UInt8)) (w : World) (hH : Holds encStr w blk off ss.toArray) (hblk : blk < w.heap.size) (hsz : ss.length < 4611686018427387904) :
    Calls Try.prog 64 #[.slice (some ⟨blk, off, none⟩) ss.length cap] w fun e w' =>
      e = .returned (.tuple #[]) ∧ ∃ n os, w' = grow (putRow encStr (Sort.ahead w n) blk off (ss.mergeSort fun x y => decide (x ≤ y)).toArray) os := Any.slices_Sort_string Try.lays190 blk off cap ss w hH hblk hsz
open Go.RowKit Go.Sort in
theorem Try.slices_Sort_string_none (p : Option Addr) (cap : Nat) (w : World) :
    Calls Try.prog 64 #[.slice p 0 cap] w fun e w' => e = .returned (.tuple #[]) ∧ w' = w := Any.slices_Sort_string_none Try.lays190 p cap w
end Go.Proofs
end
