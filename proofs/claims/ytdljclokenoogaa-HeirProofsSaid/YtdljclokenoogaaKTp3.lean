/-
  Part 3 (Tp) of the proof: walks of functions and plain facts.
-/
import Derived.WalkMore
import Derived.ChangeArms
import Derived.ChangeSlices
import Derived.SizedLaws
import Derived.Test.YtdljclokenoogaaKTp2
set_option linter.unusedVariables false
set_option linter.unusedSimpArgs false
section
namespace Go.Proofs.Ytdljclokenoogaa.Hw
section
variable {up : ByteArray → List ByteArray}
def spareB (up : ByteArray → List ByteArray) (n : Nat) (c p : ByteArray) : Bool := (up c).any (fun q => !decide (q = p) && memS (vis up n q []) p)
theorem reach_trans : ∀ {n m : Nat} {a b c : ByteArray}, reach up n a b → reach up m b c → reach up (n + m) a c
  | 0, m, a, b, c, e, h => by have e' : a = b := e; subst e'; rw [Nat.zero_add]; exact h
  | n + 1, m, a, b, c, ⟨p, hp, h1⟩, h => by
    have : n + 1 + m = (n + m) + 1 := by omega
    rw [this]; exact ⟨p, hp, reach_trans h1 h⟩
theorem mem_vis {rk : ByteArray → Nat} (hrk : ∀ c p, p ∈ up c → rk p < rk c) {n : Nat} {c a : ByteArray} (hn : rk c < n) : memS (vis up n c []) a = true ↔ ∃ m, reach up m c a := by
  rw [memS_iff, (vis_ok hrk n c [] hn Ordered.nil List.nodup_nil).2.2 a]
  simp
theorem spareB_iff {rk : ByteArray → Nat} (hrk : ∀ c p, p ∈ up c → rk p < rk c) {n : Nat} (hn : ∀ c, rk c < n) {c p : ByteArray} : spareB up n c p = true ↔ ∃ q, q ∈ up c ∧ q ≠ p ∧ ∃ m, reach up m q p := by
  unfold spareB
  rw [List.any_eq_true]
  constructor
  · rintro ⟨q, hq, h⟩
    rw [Bool.and_eq_true, Bool.not_eq_true', decide_eq_false_iff_not, mem_vis hrk (hn q)] at h
    exact ⟨q, hq, h.1, h.2⟩
  · rintro ⟨q, hq, h1, h2⟩
    refine ⟨q, hq, ?_⟩
    rw [Bool.and_eq_true, Bool.not_eq_true', decide_eq_false_iff_not, mem_vis hrk (hn q)]
    exact ⟨h1, h2⟩
theorem reach_mono {up' : ByteArray → List ByteArray} (h : ∀ c p, p ∈ up' c → p ∈ up c) : ∀ {n : Nat} {c a : ByteArray}, reach up' n c a → reach up n c a
  | 0, _, _, e => e
  | _ + 1, c, _, ⟨p, hp, hr⟩ => ⟨p, h c p hp, reach_mono h hr⟩
theorem max_rank {rk : ByteArray → Nat} (Q : ByteArray → Prop) : ∀ (l : List ByteArray), (∃ p, p ∈ l ∧ Q p) → ∃ p, p ∈ l ∧ Q p ∧ ∀ q, q ∈ l → Q q → rk q ≤ rk p
  | [], ⟨p, hp, _⟩ => by cases hp
  | x :: l, ⟨p, hp, hq⟩ => by
    by_cases h : ∃ p, p ∈ l ∧ Q p
    · obtain ⟨m, h1, h2, h3⟩ := max_rank (rk := rk) Q l h
      by_cases hx : Q x ∧ rk m < rk x
      · refine ⟨x, by simp, hx.1, fun q hq hQ => ?_⟩
        rcases List.mem_cons.1 hq with rfl | hq
        · exact Nat.le_refl _
        · have := h3 q hq hQ; omega
      · refine ⟨m, by simp [h1], h2, fun q hq hQ => ?_⟩
        rcases List.mem_cons.1 hq with rfl | hq
        · exact Nat.le_of_not_lt (fun hl => hx ⟨hQ, hl⟩)
        · exact h3 q hq hQ
    · rcases List.mem_cons.1 hp with rfl | hp
      · refine ⟨p, by simp, hq, fun q hq' hQ => ?_⟩
        rcases List.mem_cons.1 hq' with rfl | hq'
        · exact Nat.le_refl _
        · exact absurd ⟨q, hq', hQ⟩ h
      · exact absurd ⟨p, hp, hq⟩ h
theorem reduce_same {up' : ByteArray → List ByteArray} {rk : ByteArray → Nat} (hrk : ∀ c p, p ∈ up c → rk p < rk c) (hkeep : ∀ c p, p ∈ up c → (¬ ∃ q, q ∈ up c ∧ q ≠ p ∧ ∃ m, reach up m q p) → p ∈ up' c) :
    ∀ (r : Nat) (c a : ByteArray), rk c = r → (∃ m, reach up m c a) → ∃ m, reach up' m c a := by
  intro r
  induction r using Nat.strongRecOn with
  | ind r ih =>
    rintro c a hr ⟨m, hm⟩
    cases m with
    | zero => exact ⟨0, hm⟩
    | succ m =>
      obtain ⟨p0, hp0, hr0⟩ := hm
      obtain ⟨p, hp, ⟨k, hk⟩, hmax⟩ := max_rank (rk := rk) (fun p => ∃ m, reach up m p a) (up c) ⟨p0, hp0, m, hr0⟩
      have hp' : p ∈ up' c := by
        refine hkeep c p hp ?_
        rintro ⟨q, hq, hne, j, hj⟩
        have h1 := hmax q hq ⟨j + k, reach_trans hj hk⟩
        have h2 := rank_reach hrk j q p hj
        obtain rfl : j = 0 := by omega
        exact hne hj
      obtain ⟨j, hj⟩ := ih (rk p) (by have := hrk c p hp; omega) p a rfl ⟨k, hk⟩
      exact ⟨j + 1, p, hp', hj⟩
theorem single_spare {up' : ByteArray → List ByteArray} {rk : ByteArray → Nat} (hrk : ∀ c p, p ∈ up c → rk p < rk c) {c p : ByteArray} (hp : p ∈ up c) (h1 : ∀ d q, q ∈ up' d ↔ q ∈ up d ∧ ¬ (d = c ∧ q = p)) :
    (∃ q, q ∈ up c ∧ q ≠ p ∧ ∃ m, reach up m q p) ↔ ∃ m, reach up' m c p := by
  constructor
  · rintro ⟨q, hq, hne, m, hm⟩
    have key : ∀ (m : Nat) (d : ByteArray), rk d < rk c → reach up m d p → reach up' m d p := by
      intro m
      induction m with
      | zero => intro d _ h; exact h
      | succ m ih =>
        rintro d hd ⟨x, hx, hr⟩
        refine ⟨x, (h1 d x).2 ⟨hx, ?_⟩, ih x (by have := hrk d x hx; omega) hr⟩
        rintro ⟨rfl, _⟩; omega
    exact ⟨m + 1, q, (h1 c q).2 ⟨hq, fun e => hne e.2⟩, key m q (hrk c q hq) hm⟩
  · rintro ⟨m, hm⟩
    cases m with
    | zero => have e : c = p := hm; subst e; have := hrk _ _ hp; omega
    | succ m =>
      obtain ⟨q, hq, hr⟩ := hm
      obtain ⟨h2, h3⟩ := (h1 c q).1 hq
      exact ⟨q, h2, fun e => h3 ⟨rfl, e⟩, m, reach_mono (fun d x hx => ((h1 d x).1 hx).1) hr⟩
end
end Go.Proofs.Ytdljclokenoogaa.Hw
end
section
namespace Go.Proofs.Ytdljclokenoogaa.Hw
open Go.RowKit Go.Proofs.Ytdljclokenoogaa.Hp Go.Proofs.YtdljclokenoogaaW.PrintWords Go.Proofs.YtdljclokenoogaaW.PrintLast Go.Proofs.YtdljclokenoogaaW.PrintMore
attribute [local go_sem] Oper.semAt_some
attribute [local go_sem high] eqA73
theorem scope_in {n : Nat} {P : Program} {c : Code} {Q : Exit → Act → World → Prop} {a : Act} {w : World} (h : c.wpIn Fence.wide n P (Exit.noGoto Q) a w) : (Code.scope c).wpIn Fence.wide n P Q a w := wpIn_wide.2 (wp_scope_straight (wpIn_wide.1 h))
structure NdSt (w : World) (A0 : Option Addr) (n c0 B bg : Nat) (m : List (ByteArray × Value)) (v : Value) (out : List S73) (W : World) : Prop where
  hB : Below w.heap.size w W
  g0 : W.cell? ⟨bg, 0, none⟩ = some (.slice A0 n c0)
  g1 : W.cell? ⟨bg, 1, none⟩ = some (.map (some B))
  o : W.cell? ⟨bg + 1, 0, none⟩ = some v
  f : W.frozen? ⟨bg + 1, 0, none⟩ = false
  M : IsMap W B m
  row : RowK k73 73 W (bg + 2) v out
  l1 : w.heap.size ≤ B
  l2 : B < bg
section
variable {w : World} {A0 : Option Addr} {n c0 B bg : Nat} {m : List (ByteArray × Value)} {v : Value} {out : List S73}
theorem NdSt.lt {W : World} (h : NdSt w A0 n c0 B bg m v out W) : bg + 1 < W.heap.size := World.block_lt_of_cell? _ _ h.o
theorem NdSt.same {W W' : World} (h : NdSt w A0 n c0 B bg m v out W) (hb : Below (bg + 2) W W') (hr : ∀ k, v.ownBlock = some k → W'.heap[k]? = W.heap[k]?) : NdSt w A0 n c0 B bg m v out W' := by
  have h1 := h.l1; have h2 := h.l2
  exact ⟨h.hB.trans (hb.mono (by omega)), (hb.cell (p := ⟨bg, 0, none⟩) (by dsimp only; omega)).trans h.g0, (hb.cell (p := ⟨bg, 1, none⟩) (by dsimp only; omega)).trans h.g1, (hb.cell (p := ⟨bg + 1, 0, none⟩) (by dsimp only; omega)).trans h.o,
    (hb.frozen (p := ⟨bg + 1, 0, none⟩) (by dsimp only; omega)).trans h.f, h.M.below hb (by omega), h.row.step flat73 hr, h1, h2⟩
theorem NdSt.later {W W' : World} (h : NdSt w A0 n c0 B bg m v out W) (hb : Below W.heap.size W W') : NdSt w A0 n c0 B bg m v out W' :=
  h.same (hb.mono (by have := h.lt; omega)) (fun k hk => hb.block k (h.row.blocks k hk).2.1)
theorem NdSt.alloc {W : World} (h : NdSt w A0 n c0 B bg m v out W) (o : Obj) : NdSt w A0 n c0 B bg m v out (W.alloc o) := h.later ((Below.refl _ _).alloc (Nat.le_refl _) _)
theorem NdSt.oth {W W' : World} {H : Nat} (h : NdSt w A0 n c0 B bg m v out W) (hb : Oth H W W') (hH : bg + 2 ≤ H) : NdSt w A0 n c0 B bg m v out W' :=
  h.same (hb.below.mono hH) (fun k hk => by obtain ⟨_, _, cells, hc⟩ := h.row.blocks k hk; exact hb.block k (.inr ⟨_, hc, rfl⟩))
theorem NdSt.pushed {W W' : World} (h : NdSt w A0 n c0 B bg m v out W) {v' : Value} {out' : List S73} (hg : W.grownBy W' v.ownBlock) (hr : RowK k73 73 W' (bg + 2) v' out') : NdSt w A0 n c0 B bg m v' out' (W'.setCell ⟨bg + 1, 0, none⟩ v') := by
  have h1 := h.l1; have h2 := h.l2; have hl := h.lt
  have hv : ∀ k, k < bg + 2 → some k ≠ v.ownBlock := fun k hk e => by have := (h.row.blocks k e.symm).1; omega
  have hc : ∀ {b o : Nat} {u : Value}, b < bg + 1 → W.cell? ⟨b, o, none⟩ = some u → (W'.setCell ⟨bg + 1, 0, none⟩ v').cell? ⟨b, o, none⟩ = some u := fun hb hc => (cell_set_ne _ (by dsimp only; omega)).trans (hg.cell hc (hv _ (by dsimp only; omega)))
  refine ⟨(h.hB.grown hg (by omega) (fun k e => by have := (h.row.blocks k e).1; omega)).setCell (p := ⟨bg + 1, 0, none⟩) (by dsimp only; omega) _, hc (by omega) h.g0, hc (by omega) h.g1, cell_set (hg.cell h.o (hv _ (by dsimp only; omega))), ?_, (h.M.kept hg (hv _ (by omega))).setCell _ _, hr.setCell flat73 _ (by dsimp only; omega) _, h1, h2⟩
  rw [World.frozen?_setCell]
  exact (World.frozen?_of_block (w := W) (hg.block _ (by dsimp only; omega) (hv _ (by dsimp only; omega)))).trans h.f
end
theorem cell_own {H : Nat} {W W' : World} {row : Option Nat} {p : Addr} {v : Value} (h : W.cell? p = some v) (hg : W.grownBy W' row) (hr : ∀ r, row = some r → H ≤ r ∧ ∃ o : Obj, W.heap[r]? = some o ∧ o.isCells = false) : W'.cell? p = some v := by
  obtain ⟨o, ho, hc⟩ := cells_of_cell h
  refine hg.cell h (fun e => ?_)
  obtain ⟨_, o', ho', hc'⟩ := hr _ e.symm
  rw [ho] at ho'; cases ho'; rw [hc] at hc'; cases hc'
structure Inn (H : Nat) (K : Nat → Prop) (Wb Wc : World) : Prop where
  f : KeepsFrom H Wb Wc
  k : Keeps K Wb Wc
theorem Inn.refl (H : Nat) (K : Nat → Prop) (W : World) : Inn H K W W := ⟨KeepsFrom.refl _ _, Keeps.refl _ _⟩
theorem Inn.oth {H H' : Nat} {K : Nat → Prop} {Wb Wc Wd : World} (h : Inn H K Wb Wc) (hb : Oth H' Wc Wd) (hs : Wb.heap.size ≤ H') (hK : ∀ k, K k → k < Wb.heap.size) : Inn H K Wb Wd :=
  ⟨⟨Nat.le_trans h.f.size hb.size, fun k o hk ho hc => (hb.block k (.inl (by have := (Array.getElem?_eq_some_iff.1 ho).1; omega))).trans (h.f.same k o hk ho hc)⟩, h.k.trans (hb.mono (fun k hk => .inl (by have := hK k hk; omega)))⟩
theorem Inn.later {H : Nat} {K : Nat → Prop} {Wb Wc Wd : World} (h : Inn H K Wb Wc) (hb : Below Wc.heap.size Wc Wd) (hK : ∀ k, K k → k < Wb.heap.size) : Inn H K Wb Wd :=
  ⟨KeepsFrom.below h.f hb, h.k.trans (Below.keeps hb (fun k hk => by have := hK k hk; have := h.k.size; omega))⟩
def NoneSp (l : List S61) (p : ByteArray) (qs : List ByteArray) : Prop := ∀ q ∈ qs, (!decide (q = p) && memS (anc l q) p) = false
theorem NoneSp.snoc {l : List S61} {p q : ByteArray} {qs : List ByteArray} (h : NoneSp l p qs) (hq : (!decide (q = p) && memS (anc l q) p) = false) : NoneSp l p (qs ++ [q]) := fun x hx => by
  rcases List.mem_append.1 hx with hx | hx
  · exact h x hx
  · rw [List.mem_singleton.1 hx]; exact hq
def OutPos (a b : Nat) (v : Value) : Prop := ∀ k, v.ownBlock = some k → k < a ∨ b ≤ k
theorem Inn.cells {H : Nat} {K : Nat → Prop} {Wb Wc Wd : World} (h : Inn H K Wb Wc) {row : Option Nat} (hg : Wc.grownBy Wd row) (hr : ∀ j, row = some j → (∃ o, Wc.heap[j]? = some o ∧ o.isCells = true) ∧ ¬ K j) (hK : ∀ k, K k → k < Wb.heap.size) : Inn H K Wb Wd :=
  ⟨KeepsFrom.cells h.f hg (fun j e => (hr j e).1), h.k.grown hg (fun k hk => by have := hK k hk; have := h.k.size; omega) (fun k e hk => (hr k e).2 hk)⟩
theorem Inn.setCell {H : Nat} {K : Nat → Prop} {Wb Wc : World} (h : Inn H K Wb Wc) (p : Addr) (hp : ¬ K p.block) (u : Value) : Inn H K Wb (Wc.setCell p u) := ⟨KeepsFrom.setCell h.f _ _, h.k.setCell hp _⟩
def spareOf (l : List S61) (c : ByteArray) (ps : List ByteArray) : List S73 := (ps.filter (spareB (ups l) (l.length + 1) c)).map (fun p => ⟨c, p⟩)
def needlessOf (l : List S61) : List S73 × Int := if askedOf l [] = 0 then ((names l).flatMap (fun c => spareOf l c (ups l c)), 0) else ([], askedOf l [])
set_option maxRecDepth 100000 in
set_option maxHeartbeats 16000000 in
theorem needless_calls (A0 : Option Addr) (c0 : Nat) (l : List S61) (w : World) (hr : k61.C w A0 l.length l) (hc : l.length ≤ c0) :
    Calls Try.prog 25 #[.slice A0 l.length c0] w fun e w' => ∃ v, e = .returned (.tuple #[v, .int .i64 (needlessOf l).2]) ∧ RowK k73 73 w' w.heap.size v (needlessOf l).1 ∧ Below w.heap.size w w' := by
  refine (callsIn_wide (n := 20)).1 ?_
  refine callsIn_of_wp_marks Try.func25 rfl trivial ?_
  simp only [Try.ntmps25, List.size_toArray, List.length_cons, List.length_nil, Nat.reduceAdd, Nat.reduceSub, Array.replicate_succ, Array.replicate_zero, List.push_toArray, List.append_toArray, List.nil_append, List.cons_append]
  have HR := Lib.hid hr
  clear hr
  gi_wp2_with fail
  refine (callsIn_wide.2 (right_calls A0 none c0 0 l [] _ HR.out hc (lit0 _))).mono ?_
  rintro e w1 ⟨hb1, ⟨he, rfl⟩ | ⟨he, B, m, rfl, hBB, hM, hK⟩⟩
  · obtain ⟨er, her⟩ : ∃ er, askedOf l [] = er := ⟨_, rfl⟩
    have hio : needlessOf l = ([], er) := by unfold needlessOf; rw [if_neg he, her]
    rw [her] at he ⊢
    have heb : (er != 0) = true := by simpa using he
    have HIO := Lib.hid hio
    clear her hio he
    gi_wp2_with fail
    refine leave_marks (Marks.nil w.heap.size _) (fun W' hL => ⟨.tuple #[.slice none 0 0, .int .i64 er], by simp [results, Try.results25, go_sem], ?_⟩)
    exact ⟨.slice none 0 0, by rw [HIO.out], by rw [HIO.out]; exact RowK.nil _ _ _ _, (by first | exact hb1 | exact hb1.alloc hb1.size _ : Below w.heap.size w _).trans (hL.below (Nat.le_refl _))⟩
  · have hio : needlessOf l = ((names l).flatMap (fun c => spareOf l c (ups l c)), 0) := by unfold needlessOf; rw [if_pos he]
    have hck := (askedOk he).1
    obtain ⟨hl24, hal, _, hrg⟩ := checkOk hck
    have hBlt := hM.lt
    have hsz1 := hb1.size
    have HFOUR := Lib.hid (checkOk_four hal)
    have HIO := Lib.hid hio
    have HK := Lib.hid hK
    have HCK := Lib.hid hck
    have hS : NdSt w A0 l.length c0 B w1.heap.size m (.slice none 0 0) [] ((w1.alloc (.cells #[.slice A0 l.length c0, .map (some B)] 99)).alloc (.cells #[.slice none 0 0] 43)) := by
      have h1 := cell_new (w1.alloc (.cells #[.slice A0 l.length c0, .map (some B)] 99)) #[.slice none 0 0] 43 0
      have h2 := frozen_new (w1.alloc (.cells #[.slice A0 l.length c0, .map (some B)] 99)) #[.slice none 0 0] 43 0
      rw [World.size_alloc] at h1 h2
      exact ⟨(hb1.alloc hsz1 _).alloc (by simp; omega) _, cell_alloc (cell_new _ _ _ _) _, cell_alloc (cell_new _ _ _ _) _, h1, h2, (hM.alloc _).alloc _, RowK.nil _ _ _ _, hBB, hBlt⟩
    have HS := Lib.hid hS
    clear hS hM hK hck hal hrg hio he
    gi_wp2_with fail
    obtain ⟨W0, hW0⟩ : ∃ W0, (w1.alloc (.cells #[.slice A0 l.length c0, .map (some B)] 99)).alloc (.cells #[.slice none 0 0] 43) = W0 := ⟨_, rfl⟩
    rw [hW0] at HS ⊢
    clear hW0 hb1
    refine wpIn_loop_ghost_k (fun gj a' W => ∃ (u0 u1 u2 u3 u5 u7 u8 u9 u10 u11 u12 u13 u14 u15 u16 u17 u18 u19 u23 u24 u25 u26 u27 u28 u29 u30 u31 u32 u33 u34 u35 u36 u37 u38 u39 u40 u41 u42 u43 u44 u45 u46 u47 u48 u49 u50 u51 u52 u53 u54 u55 u56 u57 : Value) (ds : List Deferred) (v : Value) (j : Nat), Aside0 (NdSt w A0 l.length c0 B w1.heap.size m v ((names (l.take j)).flatMap (fun c => spareOf l c (ups l c))) W ∧ Marks w.heap.size ds W) ∧ j ≤ l.length ∧ Aside0 (gj = l.length - j) ∧
      a' = { tmps := #[u0, u1, u2, u3, .pointer (some ⟨w1.heap.size, 0, none⟩), u5, .pointer (some ⟨w1.heap.size + 1, 0, none⟩), u7, u8, u9, u10, u11, u12, u13, u14, u15, u16, u17, u18, u19, .slice A0 l.length c0, .int .i64 l.length, .int .i64 j, u23, u24, u25, u26, u27, u28, u29, u30, u31, u32, u33, u34, u35, u36, u37, u38, u39, u40, u41, u42, u43, u44, u45, u46, u47, u48, u49, u50, u51, u52, u53, u54, u55, u56, u57], defers := ds }) l.length ?_ ?_
    · repeat apply Exists.intro
      exact ⟨⟨HS.out, Marks.nil _ _⟩, Nat.zero_le _, ⟨rfl⟩, rfl⟩
    · rintro gj a' W ⟨u0, u1, u2, u3, u5, u7, u8, u9, u10, u11, u12, u13, u14, u15, u16, u17, u18, u19, u23, u24, u25, u26, u27, u28, u29, u30, u31, u32, u33, u34, u35, u36, u37, u38, u39, u40, u41, u42, u43, u44, u45, u46, u47, u48, u49, u50, u51, u52, u53, u54, u55, u56, u57, ds, v, j, hrel, hj, hgj, rfl⟩ J K hJ hK
      have HJ := Lib.hid hJ
      clear hJ
      have hS := hrel.out.1
      by_cases hlt : j < l.length
      · obtain ⟨ad, A2, c2, A3, c3, A4, c4, A5, c5, A6, c6, ea, hx0, hx1, hx2, hx3, hx4, hx5, hx6, _⟩ := at_T61 (Kd.C_below HR.out hS.hB) (j : Int) (by omega) (by omega)
        subst ea
        rw [Int.toNat_natCast] at hx0 hx1 hx2 hx3 hx4 hx5 hx6
        have hg0 := hS.g0
        have hg1 := hS.g1
        have hl1 := hS.l1
        have hl2 := hS.l2
        have hl3 := hS.lt
        have hl0 : w1.heap.size < W.heap.size := by omega
        obtain ⟨y, hy⟩ : ∃ y, rd_T61 l (j : Int) = y := ⟨_, rfl⟩
        rw [hy] at hx0 hx1 hx2 hx3 hx4 hx5 hx6
        have HY := Lib.hid hy
        clear hy
        gi_wp2_with (gi_at_call 57; refine (callsIn_wide.2 (parents_calls _ _ _ _)).mono ?_; rintro e w2 ⟨rfl, rfl⟩)
        refine scope_in ?_
        refine wpIn_seq (wpIn_label ?_)
        gi_wp2_with (gi_at_call 57; refine (callsIn_wide.2 (parents_calls _ _ _ _)).mono ?_; rintro e w2 ⟨rfl, rfl⟩)
        clear hg0 hg1 hx0 hx1 hx2 hx3 hx4 hx5 hx6
        have hBW := hS.hB
        have hsz := hBW.size
        have hS3 := ((hS.alloc (.cells #[.string y.f0, .bool y.f1, .slice A2 y.f2.length c2, .slice A3 y.f3.length c3, .slice A4 y.f4.length c4, .slice A5 y.f5.length c5, .slice A6 y.f6.length c6] 61)).alloc (.cells #[.slice (some ad) l.length c0, .map (some B)] 99)).alloc (.cells #[.string y.f0] 9)
        have hAt := AtRange.new (W := W.alloc (.cells #[.string y.f0, .bool y.f1, .slice A2 y.f2.length c2, .slice A3 y.f3.length c3, .slice A4 y.f4.length c4, .slice A5 y.f5.length c5, .slice A6 y.f6.length c6] 61)) y.f0 HR.out hc HK.out (hBW.alloc hsz _) (hS.M.alloc _)
        rw [World.size_alloc] at hAt
        obtain ⟨WL, hWL⟩ : ∃ WL, (((W.alloc (.cells #[.string y.f0, .bool y.f1, .slice A2 y.f2.length c2, .slice A3 y.f3.length c3, .slice A4 y.f4.length c4, .slice A5 y.f5.length c5, .slice A6 y.f6.length c6] 61)).alloc (.cells #[.slice (some ad) l.length c0, .map (some B)] 99)).alloc (.cells #[.string y.f0] 9)) = WL := ⟨_, rfl⟩
        have hWs : WL.heap.size = W.heap.size + 1 + 1 + 1 := by rw [← hWL]; simp
        have hWc : WL.cell? ⟨W.heap.size, 0, none⟩ = some (.string y.f0) := by rw [← hWL]; exact cell_alloc (cell_alloc (cell_new _ _ _ _) _) _
        have hMkL : Marks w.heap.size ds WL := by rw [← hWL]; exact ((hrel.out.2.alloc _).alloc _).alloc _
        have hWge : W.heap.size + 1 + 1 + 1 ≤ WL.heap.size := Nat.le_of_eq hWs.symm
        have hWle : WL.heap.size ≤ W.heap.size + 1 + 1 + 1 := Nat.le_of_eq hWs
        rw [hWL] at hAt hS3 ⊢
        clear hWL hWs
        obtain ⟨b0, hb0⟩ : ∃ b0, (names (l.take j)).flatMap (fun c => spareOf l c (ups l c)) = b0 := ⟨_, rfl⟩
        have hnext : Hid ((names (l.take (j + 1))).flatMap (fun c => spareOf l c (ups l c)) = b0 ++ spareOf l y.f0 (ups l y.f0)) := by
          show _ = _
          rw [names_take l j hlt, List.flatMap_append, hb0, HY.out]
          simp
        have hlenb : b0.length ≤ 24 * 4 := by
          rw [← hb0, List.length_flatMap]
          have h1 : ((names (l.take j)).map (fun c => (spareOf l c (ups l c)).length)).sum ≤ ((names (l.take j)).map (fun c => (spareOf l c (ups l c)).length)).length * 4 := sum_le _ (fun x hx => by
            obtain ⟨c, _, rfl⟩ := List.mem_map.1 hx
            unfold spareOf
            rw [List.length_map]
            exact Nat.le_trans (List.length_filter_le _ _) (HFOUR.out c))
          rw [List.length_map, names_length, List.length_take] at h1
          omega
        rw [hb0] at hS3
        have HB0 := Lib.hid hb0
        have hym : y.f0 ∈ names l := by rw [← HY.out]; exact names_rd hlt
        have HYM := Lib.hid hym
        have hpos0 : Hid (OutPos W.heap.size WL.heap.size v) := fun k hk => .inl (hS.row.blocks k hk).2.1
        clear hb0 hS hym
        refine rangePx hAt (by omega) rfl rfl
          (fun pre Wb => ∃ (v2 : Value), Aside0 (NdSt w (some ad) l.length c0 B w1.heap.size m v2 (b0 ++ spareOf l y.f0 (pre.map (·.1))) Wb ∧ Wb.cell? ⟨W.heap.size, 0, none⟩ = some (.string y.f0) ∧ DefKeep WL.heap.size WL Wb ∧ OutPos W.heap.size WL.heap.size v2))
          (fun _ _ _ => False) ?_ (fun _ _ _ _ h _ => h) ?_
          (fun p a' Wb => ∃ bp, WL.heap.size ≤ bp ∧ Wb.cell? ⟨bp, 0, none⟩ = some (.string p.1) ∧ a' = { tmps := #[u0, u1, u2, u3, .pointer (some ⟨w1.heap.size, 0, none⟩), u5, .pointer (some ⟨w1.heap.size + 1, 0, none⟩), u7, .pointer (some ⟨W.heap.size, 0, none⟩), .pointer (some ⟨bp, 0, none⟩), u10, u11, u12, u13, u14, u15, u16, u17, u18, u19, .slice (some ad) l.length c0, .int .i64 l.length, .int .i64 j, .bool true, .pointer (some (ad.add (j * 7))), .agg #[.string y.f0, .bool y.f1, .slice A2 y.f2.length c2, .slice A3 y.f3.length c3, .slice A4 y.f4.length c4, .slice A5 y.f5.length c5, .slice A6 y.f6.length c6], .agg #[.slice (some ad) l.length c0, .map (some B)], .pointer (some ⟨W.heap.size, 0, none⟩), .string y.f0, .func (.func 98) #[] #[.pointer (some ⟨W.heap.size + 1, 0, none⟩), .pointer (some ⟨W.heap.size + 1 + 1, 0, none⟩)], .string p.1, u31, u32, u33, u34, u35, u36, u37, u38, u39, u40, u41, u42, u43, u44, u45, u46, u47, u48, u49, u50, u51, u52, u53, u54, u55, u56, u57], defers := [] })
          (fun p a' _ Wb Wc row h hg hr => by obtain ⟨bp, h1, h2, h3⟩ := h; exact ⟨bp, h1, cell_own h2 hg hr, h3⟩) ?_ ?_ ?_ ?_
        · rintro pre Wb Wc ⟨v2, ⟨h1, h2, h3, h4⟩⟩ hb
          exact ⟨v2, ⟨h1.oth hb (by omega), hb.cell h2, h3.below hb.below, h4⟩⟩
        · exact ⟨_, ⟨by simpa [spareOf] using hS3, hWc, DefKeep.refl _ _, hpos0.out⟩⟩
        · rintro L pre p Wb K' hszb ⟨v2, hI⟩ hK'
          gi_wp2_with fail
          have hbW : Below Wb.heap.size Wb (Wb.alloc (.cells #[.string p.1] 9)) := (Below.refl _ _).alloc (Nat.le_refl _) _
          exact hK' _ _ (KeepsFrom.ofBelow hbW) (Below.keeps hbW (fun k hk => by have := hAt.klt k hk; omega)) ⟨v2, ⟨hI.out.1.alloc _, cell_alloc hI.out.2.1 _, hI.out.2.2.1.below (hbW.mono hszb), hI.out.2.2.2⟩⟩ ⟨Wb.heap.size, hszb, cell_new _ _ _ _, rfl⟩
        · rintro L pre p a'' Wb hL ⟨r, hrec⟩ hszb hpl ⟨v2, hI⟩ ⟨bp, hbp, hpc, rfl⟩
          have hSb := hI.out.1
          have hg0 := hSb.g0
          have hg1 := hSb.g1
          have hcl := hI.out.2.1
          have hl5 := hSb.lt
          have hlcl := World.block_lt_of_cell? _ _ hcl
          have hlpc := World.block_lt_of_cell? _ _ hpc
          gi_wp2_with (gi_at_call 57; refine (CallsIn.inRound L (callsIn_wide.2 (parents_calls _ _ _ _))).mono ?_; rintro e w3 ⟨rfl, rfl⟩)
          clear hg0 hg1
          have hBWb := hSb.hB
          have hS4 := (hSb.alloc (.cells #[.slice (some ad) l.length c0, .map (some B)] 99)).alloc (.cells #[.string y.f0] 9)
          have hAt2 := AtRange.new (W := Wb) y.f0 HR.out hc HK.out hBWb hSb.M
          obtain ⟨WI, hWI⟩ : ∃ WI, ((Wb.alloc (.cells #[.slice (some ad) l.length c0, .map (some B)] 99)).alloc (.cells #[.string y.f0] 9)) = WI := ⟨_, rfl⟩
          have hbI : Below Wb.heap.size Wb WI := by rw [← hWI]; exact ((Below.refl _ _).alloc (Nat.le_refl _) _).alloc (by simp) _
          have hWIs : WI.heap.size = Wb.heap.size + 1 + 1 := by rw [← hWI]; simp
          have hclI := (hbI.cell (p := ⟨W.heap.size, 0, none⟩) hlcl).trans hcl
          have hpcI := (hbI.cell (p := ⟨bp, 0, none⟩) hlpc).trans hpc
          have hrecI : WI.heap[L]? = some (.loop r) := (hbI.block L (Array.getElem?_eq_some_iff.1 hrec).1).trans hrec
          have hdkI : DefKeep WL.heap.size WL WI := hI.out.2.2.1.below (hbI.mono hszb)
          have hposv := Lib.hid hI.out.2.2.2
          have hinI : Inn WL.heap.size (fun k => k < w.heap.size ∨ k = B ∨ k = W.heap.size + 1 ∨ k = W.heap.size + 1 + 1) Wb WI := (Inn.refl _ _ _).later hbI (fun k hk => by have := hAt.klt k hk; omega)
          have hWIge : Wb.heap.size + 1 + 1 ≤ WI.heap.size := Nat.le_of_eq hWIs.symm
          have hWIle : WI.heap.size ≤ Wb.heap.size + 1 + 1 := Nat.le_of_eq hWIs
          rw [hWI] at hAt2 hS4 ⊢
          clear hWI hcl hpc hrec hWIs
          obtain ⟨out, hout⟩ : ∃ out, b0 ++ spareOf l y.f0 (pre.map (·.1)) = out := ⟨_, rfl⟩
          have hnx : Hid (b0 ++ spareOf l y.f0 ((pre ++ [p]).map (·.1)) = out ++ (if spareB (ups l) (l.length + 1) y.f0 p.1 then [⟨y.f0, p.1⟩] else [])) := by
            show _ = _
            rw [← hout, List.map_append]
            unfold spareOf
            rw [List.filter_append, List.map_append, List.append_assoc]
            congr 2
            simp only [List.map_cons, List.map_nil, List.filter_cons, List.filter_nil]
            split <;> rfl
          have hlenout : out.length ≤ 1100000000000 := by
            rw [← hout, List.length_append]
            unfold spareOf
            rw [List.length_map]
            have h1 := List.length_filter_le (spareB (ups l) (l.length + 1) y.f0) (pre.map (·.1))
            rw [List.length_map] at h1
            have h2 := HFOUR.out y.f0
            omega
          rw [hout] at hS4
          have HLO := Lib.hid hlenout
          clear hout hlenout hI hSb
          refine rangePn hrecI hAt2 (by omega) rfl rfl
            (fun pre2 Wc => Aside0 (NdSt w (some ad) l.length c0 B w1.heap.size m v2 out Wc ∧ Wc.cell? ⟨W.heap.size, 0, none⟩ = some (.string y.f0) ∧ Wc.cell? ⟨bp, 0, none⟩ = some (.string p.1) ∧ DefKeep WL.heap.size WL Wc ∧ Inn WL.heap.size (fun k => k < w.heap.size ∨ k = B ∨ k = W.heap.size + 1 ∨ k = W.heap.size + 1 + 1) Wb Wc ∧ NoneSp l p.1 (pre2.map (·.1))))
            (fun cd pre2 Wc => cd = .exit 3 ∧ Aside0 (∃ v3, NdSt w (some ad) l.length c0 B w1.heap.size m v3 (out ++ [⟨y.f0, p.1⟩]) Wc ∧ Wc.cell? ⟨W.heap.size, 0, none⟩ = some (.string y.f0) ∧ DefKeep WL.heap.size WL Wc ∧ Inn WL.heap.size (fun k => k < w.heap.size ∨ k = B ∨ k = W.heap.size + 1 ∨ k = W.heap.size + 1 + 1) Wb Wc ∧ spareB (ups l) (l.length + 1) y.f0 p.1 = true ∧ OutPos W.heap.size WL.heap.size v3))
            ?_ ?_ ?_
            (fun q => { tmps := #[u0, u1, u2, u3, .pointer (some ⟨w1.heap.size, 0, none⟩), u5, .pointer (some ⟨w1.heap.size + 1, 0, none⟩), u7, .pointer (some ⟨W.heap.size, 0, none⟩), .pointer (some ⟨bp, 0, none⟩), .string q.1, u11, u12, u13, u14, u15, u16, u17, u18, u19, .slice (some ad) l.length c0, .int .i64 l.length, .int .i64 j, .bool true, .pointer (some (ad.add (j * 7))), .agg #[.string y.f0, .bool y.f1, .slice A2 y.f2.length c2, .slice A3 y.f3.length c3, .slice A4 y.f4.length c4, .slice A5 y.f5.length c5, .slice A6 y.f6.length c6], .agg #[.slice (some ad) l.length c0, .map (some B)], .pointer (some ⟨W.heap.size, 0, none⟩), .string y.f0, .func (.func 98) #[] #[.pointer (some ⟨W.heap.size + 1, 0, none⟩), .pointer (some ⟨W.heap.size + 1 + 1, 0, none⟩)], .string p.1, .agg #[.slice (some ad) l.length c0, .map (some B)], .pointer (some ⟨W.heap.size, 0, none⟩), .string y.f0, .func (.func 98) #[] #[.pointer (some ⟨Wb.heap.size, 0, none⟩), .pointer (some ⟨Wb.heap.size + 1, 0, none⟩)], .string q.1, u36, u37, u38, u39, u40, u41, u42, u43, u44, u45, u46, u47, u48, u49, u50, u51, u52, u53, u54, u55, u56, u57], defers := [] }) ?_ ?_ ?_ ?_
          · rintro pre2 Wc Wd ⟨⟨h1, h2, h3, h4, h5, h6⟩⟩ hb
            exact ⟨⟨h1.oth hb (by omega), hb.cell h2, hb.cell h3, h4.below (hb.below.mono (by omega)), h5.oth hb (by omega) (fun k hk => by have := hAt.klt k hk; omega), h6⟩⟩
          · rintro cd pre2 Wc Wd ⟨hcd, ⟨v3, h1, h2, h4, h5, h6⟩⟩ hb
            exact ⟨hcd, ⟨v3, h1.oth hb (by omega), hb.cell h2, h4.below (hb.below.mono (by omega)), h5.oth hb (by omega) (fun k hk => by have := hAt.klt k hk; omega), h6⟩⟩
          · exact ⟨⟨hS4, hclI, hpcI, hdkI, hinI, fun _ h => (by cases h)⟩⟩
          · intro L2 q Wc K' hK'
            gi_wp2_with fail
            exact hK'
          · rintro L2 pre2 q Wc hszc hpl2 ⟨hJ2⟩
            have hSc := hJ2.1
            have hg0 := hSc.g0
            have hg1 := hSc.g1
            have hcl := hJ2.2.1
            have hpc := hJ2.2.2.1
            have ho := hSc.o
            have hl6 := hSc.lt
            have hl7 : w1.heap.size < Wc.heap.size := by omega
            have hlcl2 := World.block_lt_of_cell? _ _ hcl
            have hlpc2 := World.block_lt_of_cell? _ _ hpc
            have hb6 : Below Wc.heap.size Wc (Wc.alloc (.cells #[.string y.f0, .string p.1] 73)) := (Below.refl _ _).alloc (Nat.le_refl _) _
            have hyy := tl_eq (rfl : y.f0 = y.f0)
            have hKI : Hid (∀ k, (k < w.heap.size ∨ k = B ∨ k = W.heap.size + 1 ∨ k = W.heap.size + 1 + 1) → k < Wb.heap.size) := by
              show ∀ k, _
              intro k hk; have := hAt.klt k hk; omega
            have hKJ : Hid (∀ k, (k < w.heap.size ∨ k = B ∨ k = Wb.heap.size ∨ k = Wb.heap.size + 1) → k < Wc.heap.size) := by
              show ∀ k, _
              intro k hk; have := hAt2.klt k hk; omega
            have HREST := Lib.hid hJ2
            by_cases hpq : q.1 = p.1
            · have hq1 := tl_eq hpq.symm
              have HPQ := Lib.hid hpq
              clear hpq hJ2
              gi_wp2_with (refine wpListIn_skip rfl rfl ?_)
              exact ⟨KeepsFrom.ofBelow hb6, Below.keeps hb6 (fun k hk => hKJ.out k hk), ⟨hSc.alloc _, cell_alloc hcl _, cell_alloc hpc _, HREST.out.2.2.2.1.below (hb6.mono (by omega)), HREST.out.2.2.2.2.1.later hb6 hKI.out, by show NoneSp l p.1 ((pre2 ++ [q]).map (·.1)); rw [List.map_append]; exact HREST.out.2.2.2.2.2.snoc (by simp [HPQ.out])⟩⟩
            · have hq1 := tl_ne (fun e => hpq e.symm)
              have HPQ := Lib.hid hpq
              have hG : GrOk (Wc.alloc (.cells #[.string y.f0, .string p.1] 73)) (some ad) c0 B l m := ⟨Kd.C_below HR.out (hSc.hB.trans (hb6.mono hSc.hB.size)), hc, hSc.M.alloc _, HK.out, HCK.out⟩
              have HH := Lib.hid (hG.has (a := p.1) (ups_mem q.2).2)
              clear hpq hJ2 hG
              cases hm : memS (anc l q.1) p.1 with
              | false =>
                have HM := Lib.hid hm
                clear hm
                gi_wp2_with (gi_at_call 70; refine (CallsIn.inRound L2 (callsIn_wide.2 HH.out)).mono ?_; rintro e w5 ⟨he5, hb5⟩; rw [HM.out] at he5; subst he5; have hb56 := hb6.trans (hb5.mono (by simp)); have hS5 := hSc.later hb56; have hl5' := hS5.lt; have ho5 := hS5.o; have hf5 := hS5.f; have hbox0 := (hb5.cell (p := ⟨Wc.heap.size, 0, none⟩) (by simp)).trans (cell_new Wc _ _ 0); have hbox1 := (hb5.cell (p := ⟨Wc.heap.size, 1, none⟩) (by simp)).trans (cell_new Wc _ _ 1); simp only [List.getElem?_toArray, List.getElem?_cons_zero, List.getElem?_cons_succ] at hbox0 hbox1; clear ho hg0 hg1 hpc)
                exact ⟨KeepsFrom.ofBelow hb56, Below.keeps hb56 (fun k hk => hKJ.out k hk), ⟨hS5, (hb56.cell (p := ⟨W.heap.size, 0, none⟩) hlcl2).trans hcl, (hb56.cell (p := ⟨bp, 0, none⟩) hlpc2).trans HREST.out.2.2.1, HREST.out.2.2.2.1.below (hb56.mono (by omega)), HREST.out.2.2.2.2.1.later hb56 hKI.out, by show NoneSp l p.1 ((pre2 ++ [q]).map (·.1)); rw [List.map_append]; exact HREST.out.2.2.2.2.2.snoc (by rw [HM.out]; simp)⟩⟩
              | true =>
                have HM := Lib.hid hm
                have HSP : Hid (spareB (ups l) (l.length + 1) y.f0 p.1 = true) := by
                  show _ = _
                  unfold spareB
                  rw [List.any_eq_true]
                  refine ⟨q.1, q.2, ?_⟩
                  have := HM.out
                  unfold anc at this
                  rw [this]
                  simpa using HPQ.out
                clear hm
                gi_wp2_with (first | (gi_at_call 70; refine (CallsIn.inRound L2 (callsIn_wide.2 HH.out)).mono ?_; rintro e w5 ⟨he5, hb5⟩; rw [HM.out] at he5; subst he5; have hb56 := hb6.trans (hb5.mono (by simp)); have hS5 := hSc.later hb56; have hl5' := hS5.lt; have ho5 := hS5.o; have hf5 := hS5.f; have hbox0 := (hb5.cell (p := ⟨Wc.heap.size, 0, none⟩) (by simp)).trans (cell_new Wc _ _ 0); have hbox1 := (hb5.cell (p := ⟨Wc.heap.size, 1, none⟩) (by simp)).trans (cell_new Wc _ _ 1); simp only [List.getElem?_toArray, List.getElem?_cons_zero, List.getElem?_cons_succ] at hbox0 hbox1; clear ho hg0 hg1 hpc) | (gi_at_builtin; refine RowL_push (w1.heap.size + 2) rfl _ _ rfl v2 out y.f0 p.1 rfl rfl hS5.row (by omega) HLO.out ?_; intro g cp w6 hR6 hG6 hat; have hne6 : some (w1.heap.size + 1) ≠ v2.ownBlock := (fun e => by have := (hS5.row.blocks _ e.symm).1; omega); have hc6 := hG6.cell ho5 hne6; have hf6 : w6.frozen? ⟨w1.heap.size + 1, 0, none⟩ = false := (World.frozen?_of_block (w := w5) (hG6.block (w1.heap.size + 1) (by omega) hne6)).trans hf5; have HR6 := Lib.hid hR6; clear hR6 ho5 hf5))
                have hv2 := fun k (e : v2.ownBlock = some k) => (hS5.row.blocks k e)
                have hcl5 := (hb56.cell (p := ⟨W.heap.size, 0, none⟩) hlcl2).trans hcl
                refine ⟨KeepsFrom.setCell (KeepsFrom.cells (KeepsFrom.ofBelow hb56) hG6 (fun k e => by obtain ⟨_, _, cells, hc⟩ := hv2 k e; exact ⟨_, hc, rfl⟩)) _ _, rfl, ⟨_, hS5.pushed hG6 HR6.out, ?_, ?_, ?_, HSP.out, ?_⟩⟩
                · refine (cell_set_ne _ (by dsimp only; omega)).trans ((World.cell?_of_block (w := w5) (hG6.block _ (by have := hb56.size; dsimp only; omega) (fun e => ?_))).trans hcl5)
                  have := hposv.out _ e.symm
                  dsimp only at this
                  omega
                · exact ((HREST.out.2.2.2.1.below (hb56.mono (by omega))).grown hG6 (fun k e => by obtain ⟨_, _, cells, hc⟩ := hv2 k e; exact ⟨_, hc, rfl⟩)).setCell _ _
                · refine ((HREST.out.2.2.2.2.1.later hb56 hKI.out).cells hG6 (fun k e => ?_) hKI.out).setCell _ (by dsimp only; omega) _
                  obtain ⟨h7, _, cells, hc⟩ := hv2 k e
                  exact ⟨⟨_, hc, rfl⟩, fun hk => by have := hposv.out k e; omega⟩
                · intro k hk
                  have hk' : g = k := by simpa [Value.ownBlock] using hk
                  subst hk'
                  rcases hat with hat | hat
                  · exact hposv.out _ hat.symm
                  · have := hb56.size; omega
          · rintro xs Wc hszc hxs ⟨hJ2⟩
            have hsp : spareB (ups l) (l.length + 1) y.f0 p.1 = false := by
              cases h : spareB (ups l) (l.length + 1) y.f0 p.1 with
              | false => rfl
              | true =>
                unfold spareB at h
                rw [List.any_eq_true] at h
                obtain ⟨q, hq, h⟩ := h
                have := hJ2.2.2.2.2.2 q (by rw [hxs]; exact hq)
                unfold anc at this
                rw [this] at h; cases h
            have HSP := Lib.hid hsp
            clear hsp
            gi_wp2_with fail
            refine ⟨hJ2.2.2.2.2.1.f, hJ2.2.2.2.2.1.k, v2, ⟨?_, hJ2.2.1, hJ2.2.2.2.1, hposv.out⟩⟩
            rw [hnx.out, HSP.out, if_neg (by simp), List.append_nil]
            exact hJ2.1
          · rintro cd pre2 Wc hszc - ⟨rfl, ⟨v3, h1, h2, h4, h5, h6, h7⟩⟩
            have H6 := Lib.hid h6
            have H7 := Lib.hid h7
            clear h6 h7
            gi_wp2_with fail
            refine ⟨h5.f, h5.k, v3, ⟨?_, h2, h4, H7.out⟩⟩
            rw [hnx.out, H6.out, if_pos rfl]
            exact h1
        · intro D1 xs Wb hD1 hxs ⟨v2, hI⟩ hdef
          gi_wp2_with fail
          rw [Exit.noGoto_normal]
          gi_wp2_with fail
          refine Handed.intro (l.length - (j + 1)) (by have := hgj.out; omega) (HJ.out _ _ _ ⟨_, _, _, _, _, _, _, _, _, _, _, _, _, _, _, _, _, _, _, _, _, _, _, _, _, _, _, _, _, _, _, _, _, _, _, _, _, _, _, _, _, _, _, _, _, _, _, _, _, _, _, _, _, _, v2, j + 1, ⟨?_, Marks.cons hMkL hD1 (by omega) hdef (hMkL.defk hI.out.2.2.1)⟩, by omega, ⟨rfl⟩, rfl⟩)
          have := hI.out.1
          rw [hxs] at this
          rw [hnext.out]
          exact this
        · intro D1 cd pre Wb _ _ h _
          exact h.elim
      · obtain rfl : j = l.length := by omega
        have ho := hS.o
        have hrow := hS.row
        rw [List.take_length] at hrow
        have HROW := Lib.hid hrow
        clear hrow
        gi_wp2_with fail
        refine leave_marks hrel.out.2 (fun W' hL => ⟨.tuple #[v, .int .i64 0], by simp [results, Try.results25, go_sem], v, by rw [HIO.out], ?_, hS.hB.trans (hL.below (Nat.le_refl _))⟩)
        rw [HIO.out]
        exact (HROW.out.left flat73 hL).lower (by have := hS.l1; have := hS.l2; omega)
end Go.Proofs.Ytdljclokenoogaa.Hw
end
section
namespace Go.Proofs.Ytdljclokenoogaa.Hw
open Go.RowKit Go.Proofs.Ytdljclokenoogaa.Hp Go.Proofs.YtdljclokenoogaaW.PrintWords Go.Proofs.YtdljclokenoogaaW.PrintLast Go.Proofs.YtdljclokenoogaaW.PrintMore
attribute [local go_sem] Oper.semAt_some
def commonOf (l : List S61) (a b : ByteArray) : List ByteArray := (anc l a).filter (memS (anc l b))
def leastOf (l : List S61) (a b : ByteArray) : List ByteArray × Int := if askedOf l [a, b] = 0 then (sortS ((commonOf l a b).filter (leastB l (commonOf l a b))), 0) else ([], askedOf l [a, b])
theorem anc_names {l : List S61} {c : ByteArray} (h : (checkOf l).1 = 0) (hc : c ∈ names l) : (∀ x ∈ anc l c, x ∈ names l) ∧ (anc l c).Nodup := by
  obtain ⟨_, _, _, hrg⟩ := checkOk h
  obtain ⟨rk, hrk, hrn⟩ := rank_of_ring hrg
  exact ⟨vis_all (P := fun x => x ∈ names l) (fun c p _ hp => (ups_mem hp).2) (l.length + 1) c [] hc (fun x hx => by cases hx), (vis_ok hrk (l.length + 1) c [] (hrn c) Ordered.nil List.nodup_nil).2.1⟩
set_option maxRecDepth 100000 in
set_option maxHeartbeats 8000000 in
theorem least_calls (A0 : Option Addr) (c0 : Nat) (l : List S61) (a b : ByteArray) (w : World) (hr : k61.C w A0 l.length l) (hc : l.length ≤ c0) :
    Calls Try.prog 21 #[.slice A0 l.length c0, .string a, .string b] w fun e w' => ∃ v, e = .returned (.tuple #[v, .int .i64 (leastOf l a b).2]) ∧ Row w' w.heap.size (fun _ => True) v (leastOf l a b).1 ∧ Below w.heap.size w w' := by
  refine (callsIn_wide (n := 20)).1 ?_
  refine callsIn_of_wp Try.func21 rfl trivial ?_
  simp only [Try.ntmps21, List.size_toArray, List.length_cons, List.length_nil, Nat.reduceAdd, Nat.reduceSub, Array.replicate_succ, Array.replicate_zero, List.push_toArray, List.append_toArray, List.nil_append, List.cons_append]
  have HR := Lib.hid hr
  clear hr
  obtain ⟨W0, hW0⟩ : ∃ W0, w.alloc (.cells #[.string b] 9) = W0 := ⟨_, rfl⟩
  have hB0 : Below w.heap.size w W0 := by rw [← hW0]; exact (Below.refl _ _).alloc (Nat.le_refl _) _
  have hs0 : w.heap.size < W0.heap.size := by rw [← hW0]; simp
  have hs0' : W0.heap.size ≤ w.heap.size + 1 := by rw [← hW0]; simp
  have hcc : W0.cell? ⟨w.heap.size, 0, none⟩ = some (.string b) := by rw [← hW0]; exact cell_new _ _ _ _
  have hb1 : Below w.heap.size w (W0.alloc (.cells #[.string a, .string b] 9)) := hB0.alloc hB0.size _
  have HL := Lib.hid (lit2 W0 a b)
  gi_wp2_with fail
  refine (callsIn_wide.2 (right_calls A0 (some ⟨W0.heap.size, 0, none⟩) c0 2 l [a, b] _ (Kd.C_below HR.out hb1) hc HL.out)).mono ?_
  rintro e w1 ⟨hb2, ⟨he, rfl⟩ | ⟨he, B, m, rfl, hBB, hM, hK⟩⟩
  · have hB1 := hb1.trans (hb2.mono (by simp; omega))
    obtain ⟨er, her⟩ : ∃ er, askedOf l [a, b] = er := ⟨_, rfl⟩
    have hio : leastOf l a b = ([], er) := by unfold leastOf; rw [if_neg he, her]
    rw [her] at he ⊢
    have heb : (er != 0) = true := by simpa using he
    have HIO := Lib.hid hio
    clear her hio he hcc hW0
    gi_wp2_with fail
    go_ret2
    exact ⟨.slice none 0 0, by rw [HIO.out]; rfl, by rw [HIO.out]; exact Row.nil _ _ _, by first | exact hB1 | exact hB1.alloc hB1.size _⟩
  · have hB1 := hb1.trans (hb2.mono (by simp; omega))
    have hio : leastOf l a b = (sortS ((commonOf l a b).filter (leastB l (commonOf l a b))), 0) := by unfold leastOf; rw [if_pos he]
    obtain ⟨hck, hns⟩ := askedOk he
    obtain ⟨hl24, _, _, _⟩ := checkOk hck
    have han := anc_names hck (hns a (by simp))
    have hbn := hns b (by simp)
    have halen : (anc l a).length ≤ 24 := Nat.le_trans (length_le_of_subset _ _ han.2 han.1) (by rw [names_len]; exact hl24)
    obtain ⟨WL, hWL⟩ : ∃ WL, w1.alloc (.cells #[.slice A0 l.length c0, .map (some B)] 99) = WL := ⟨_, rfl⟩
    have hbL : Below w1.heap.size w1 WL := by rw [← hWL]; exact (Below.refl _ _).alloc (Nat.le_refl _) _
    have hBL := hB1.trans (hbL.mono hB1.size)
    have hg0 : WL.cell? ⟨w1.heap.size, 0, none⟩ = some (.slice A0 l.length c0) := by rw [← hWL]; exact cell_new _ _ _ _
    have hg1 : WL.cell? ⟨w1.heap.size, 1, none⟩ = some (.map (some B)) := by rw [← hWL]; exact cell_new _ _ _ _
    have hcc1 : w1.cell? ⟨w.heap.size, 0, none⟩ = some (.string b) := (hb2.cell (p := ⟨w.heap.size, 0, none⟩) (by simp; omega)).trans (cell_alloc hcc _)
    have hccL : WL.cell? ⟨w.heap.size, 0, none⟩ = some (.string b) := by rw [← hWL]; exact cell_alloc hcc1 _
    have hgL := World.block_lt_of_cell? _ _ hg0
    have hcL := World.block_lt_of_cell? _ _ hccL
    have hG : GrOk WL A0 c0 B l m := ⟨Kd.C_below HR.out hBL, hc, hM.below hbL hM.lt, hK, hck⟩
    have HC := Lib.hid (hG.above (hns a (by simp)))
    have hP : Hid (∀ W, Below WL.heap.size WL W → Pred W 69 #[.pointer (some ⟨w1.heap.size, 0, none⟩), .pointer (some ⟨w.heap.size, 0, none⟩)] (anc l a) (memS (anc l b))) := by
      show ∀ W, _
      intro W hW
      refine ⟨enters_of Try.func69 (by kernel_rfl) rfl, fun x hx W2 hW2 => ?_⟩
      have hW3 := hW.trans (hW2.mono hW.size)
      simp only [List.append_toArray, List.cons_append, List.nil_append]
      exact least1_calls (hG.later hW3) w1.heap.size w.heap.size x b hbn ((hW3.cell (p := ⟨w1.heap.size, 0, none⟩) hgL).trans hg0) ((hW3.cell (p := ⟨w1.heap.size, 1, none⟩) hgL).trans hg1) ((hW3.cell (p := ⟨w.heap.size, 0, none⟩) hcL).trans hccL)
    have hP2 : Hid (∀ W, Below WL.heap.size WL W → ∀ (bn : Nat) (A1 : Option Addr) (c1 : Nat), Kd.string.C W A1 (commonOf l a b).length (commonOf l a b) → W.cell? ⟨bn, 0, none⟩ = some (.slice A1 (commonOf l a b).length c1) → Pred W 71 #[.pointer (some ⟨bn, 0, none⟩), .pointer (some ⟨w1.heap.size, 0, none⟩)] (commonOf l a b) (leastB l (commonOf l a b))) := by
      show ∀ W, _
      intro W hW bn A1 c1 hC1 hbn1
      refine ⟨enters_of Try.func71 (by kernel_rfl) rfl, fun x hx W2 hW2 => ?_⟩
      have hW3 := hW.trans (hW2.mono hW.size)
      have hl1 := World.block_lt_of_cell? _ _ hbn1
      simp only [List.append_toArray, List.cons_append, List.nil_append]
      exact least2_calls (hG.later hW3) w1.heap.size bn A1 c1 (commonOf l a b) x (fun d hd => han.1 d (List.mem_filter.1 hd).1) ((hW3.cell (p := ⟨w1.heap.size, 0, none⟩) hgL).trans hg0) ((hW3.cell (p := ⟨w1.heap.size, 1, none⟩) hgL).trans hg1) (Kd.C_below hC1 hW2) ((hW2.cell (p := ⟨bn, 0, none⟩) hl1).trans hbn1)
    have hclen : (commonOf l a b).length ≤ 1100000000000 := Nat.le_trans (List.length_filter_le _ _) (by omega)
    have hclen2 : ((commonOf l a b).filter (leastB l (commonOf l a b))).length ≤ 1100000000000 := Nat.le_trans (List.length_filter_le _ _) hclen
    have hale : (anc l a).length ≤ 1100000000000 := by omega
    have HIO := Lib.hid hio
    have HCL := Lib.hid hclen
    have HCL2 := Lib.hid hclen2
    have HAL := Lib.hid hale
    clear hio he hM hK hG hck hcc hcc1 hW0 hccL hns han hbn halen hclen hclen2 hale
    gi_wp2_with (first
      | (gi_at_call 68; refine (callsIn_wide.2 HC.out).mono ?_; rintro e w2 ⟨v2, rfl, hR2, hb3⟩; obtain ⟨A2, c2, rfl, hcap2, hC2⟩ := hR2.reads; have HC2 := Lib.hid hC2; clear hC2 hR2))
    refine (callsIn_wide.2 (filter_calls _ _ (anc l a) _ _ _ _ HC2.out HAL.out (hP.out w2 hb3))).mono ?_
    rintro e w3 ⟨v3, rfl, hR3, hb4⟩
    have hb34 := hb3.trans (hb4.mono hb3.size)
    obtain ⟨A3, c3, rfl, hcap3, hC3⟩ := hR3.reads
    have hC3' : Kd.string.C w3 A3 (commonOf l a b).length (commonOf l a b) := hC3
    have hbox : (w3.alloc (.cells #[.slice A3 (commonOf l a b).length c3] 25)).cell? ⟨w3.heap.size, 0, none⟩ = some (.slice A3 (commonOf l a b).length c3) := cell_new _ _ _ _
    have hb5 : Below w3.heap.size w3 (w3.alloc (.cells #[.slice A3 (commonOf l a b).length c3] 25)) := (Below.refl _ _).alloc (Nat.le_refl _) _
    have hb35 := hb34.trans (hb5.mono hb34.size)
    have hB5 := hBL.trans (hb35.mono hBL.size)
    have HC5 := Lib.hid (Kd.C_below hC3' hb5)
    have HP5 := Lib.hid (hP2.out _ hb35 w3.heap.size A3 c3 HC5.out hbox)
    have e1 : List.filter (memS (anc l b)) (anc l a) = commonOf l a b := rfl
    rw [e1]
    clear hC3 hC3' hR3 hcap3 hbox hb4 e1 hWL
    gi_wp2_with fail
    refine (callsIn_wide.2 (filter_calls _ _ (commonOf l a b) _ _ _ _ HC5.out HCL.out HP5.out)).mono ?_
    rintro e w6 ⟨v6, rfl, hR6, hb6⟩
    have hB6 := hB5.trans (hb6.mono hB5.size)
    have HR6 := Lib.hid hR6
    have hb6l := hb6.size
    clear hR6
    gi_wp2_with (gi_at_call 64; refine (callsIn_wide.2 (sortRow_calls HR6.out HCL2.out)).mono ?_; rintro e w7 ⟨rfl, hR7, hG7⟩; have HR7 := Lib.hid hR7; clear hR7)
    go_ret2
    refine ⟨_, by rw [HIO.out]; rfl, by rw [HIO.out]; exact ⟨Kd.R_lower HR7.out.1 hB5.size, HR7.out.2⟩, hB6.grown hG7 hB6.size (fun k e => ?_)⟩
    exact Nat.le_trans hB5.size (HR6.out.blocks k e).1
end Go.Proofs.Ytdljclokenoogaa.Hw
end
section
namespace Go.Proofs.Ytdljclokenoogaa.Hw
open Go.RowKit Go.Proofs.Ytdljclokenoogaa.Hp
theorem five_above : aboveOf five cE = ([cA, cB, cC, cD, cE], 0) := by kernel_rfl
theorem five_ways : waysOf five cE cA = (3, 0) := by kernel_rfl
theorem five_way : wayOf five cE cA = ([cE, cA], 0) := by kernel_rfl
theorem five_order : orderOf five = ([cA, cB, cC, cD, cE], 0) := by kernel_rfl
theorem five_sort (x y : ByteArray) (h : lessS x y = true) (hne : x ≠ y) : sortS [x, y] = [x, y] := by
  refine Incr.uniq (sortS_incr (by simp [hne])) ?_ (fun z => sortS_mem _ z)
  simp [Incr, h]
theorem five_sort1 (x : ByteArray) : sortS [x] = [x] := by simp [sortS]
theorem five_levels0 : levelsOf five = ([sortS [cA], sortS [cB, cC], sortS [cD], sortS [cE]], 0) := by kernel_rfl
theorem five_levels : levelsOf five = ([[cA], [cB, cC], [cD], [cE]], 0) := by
  rw [five_levels0, five_sort1, five_sort1, five_sort1, five_sort cB cC (by kernel_rfl) (by decide)]
theorem five_least : leastOf five cB cC = ([cA], 0) := by kernel_rfl
theorem five_one : leastOf five cD cB = ([cB], 0) := by kernel_rfl
theorem five_spare : needlessOf five = ([⟨cE, cA⟩], 0) := by kernel_rfl
theorem five_touched : touchedOf five [cC] = ([cC, cD, cE], 0) := by kernel_rfl
def badL : List S61 := litC cA [cD] :: five.drop 1
theorem bad_check : checkOf badL = (7, cA) := by kernel_rfl
theorem bad_ring : ringOf badL = [cA, cD, cB] := by kernel_rfl
end Go.Proofs.Ytdljclokenoogaa.Hw
end
section
namespace Go.Proofs.Ytdljclokenoogaa.Hw
open Go.RowKit Go.Proofs.Ytdljclokenoogaa.Hp Go.Proofs.YtdljclokenoogaaW.PrintWords Go.Proofs.YtdljclokenoogaaW.PrintLast Go.Proofs.YtdljclokenoogaaW.PrintMore
attribute [local go_sem] Oper.semAt_some
section
variable (A : Option Addr) (w : World) (h : k61.C w A 5 five)
include h
theorem san_above : Calls Try.prog 34 #[.slice A 5 5, .string cE] w fun e w' => ∃ B c, e = .returned (.tuple #[.slice B 5 c, .int .i64 0]) ∧ Kd.string.C w' B 5 [cA, cB, cC, cD, cE] ∧ 5 ≤ c ∧ Below w.heap.size w w' := by
  have h := aboveApi_calls A 5 five cE w h (Nat.le_refl _)
  rw [five_above] at h
  refine h.mono ?_
  rintro e w' ⟨v, rfl, hR, hb⟩
  obtain ⟨B, c, rfl, hc, hC⟩ := Row.reads hR
  exact ⟨B, c, rfl, hC, hc, hb⟩
theorem san_ways : Calls Try.prog 32 #[.slice A 5 5, .string cE, .string cA] w fun e w' => e = .returned (.tuple #[.int .i64 3, .int .i64 0]) ∧ Below w.heap.size w w' := by
  have h := ways_calls A 5 five cE cA w h (Nat.le_refl _)
  rw [five_ways] at h
  exact h
theorem san_way : Calls Try.prog 49 #[.slice A 5 5, .string cE, .string cA] w fun e w' => ∃ B c, e = .returned (.tuple #[.slice B 2 c, .int .i64 0]) ∧ Kd.string.C w' B 2 [cE, cA] ∧ 2 ≤ c ∧ Below w.heap.size w w' := by
  have h := way_calls A 5 five cE cA w h (Nat.le_refl _)
  rw [five_way] at h
  refine h.mono ?_
  rintro e w' ⟨v, rfl, hR, hb⟩
  obtain ⟨B, c, rfl, hc, hC⟩ := Row.reads hR
  exact ⟨B, c, rfl, hC, hc, hb⟩
theorem san_order : Calls Try.prog 17 #[.slice A 5 5] w fun e w' => ∃ B c, e = .returned (.tuple #[.slice B 5 c, .int .i64 0]) ∧ Kd.string.C w' B 5 [cA, cB, cC, cD, cE] ∧ 5 ≤ c ∧ Below w.heap.size w w' := by
  have h := order_calls A 5 five w h (Nat.le_refl _)
  rw [five_order] at h
  refine h.mono ?_
  rintro e w' ⟨v, rfl, hR, hb⟩
  obtain ⟨B, c, rfl, hc, hC⟩ := Row.reads hR
  exact ⟨B, c, rfl, hC, hc, hb⟩
theorem san_levels : Calls Try.prog 19 #[.slice A 5 5] w fun e w' => ∃ B c, e = .returned (.tuple #[.slice B 4 c, .int .i64 0]) ∧ (Kd.slice 9 Kd.string).C w' B 4 [[cA], [cB, cC], [cD], [cE]] ∧ 4 ≤ c ∧ Below w.heap.size w w' := by
  have h := levels_calls A 5 five w h (Nat.le_refl _)
  rw [five_levels] at h
  refine h.mono ?_
  rintro e w' ⟨v, rfl, hR, hb⟩
  obtain ⟨B, c, rfl, hc, hC⟩ := Kd.R_reads hR
  exact ⟨B, c, rfl, hC, hc, hb⟩
theorem san_least : Calls Try.prog 21 #[.slice A 5 5, .string cB, .string cC] w fun e w' => ∃ B c, e = .returned (.tuple #[.slice B 1 c, .int .i64 0]) ∧ Kd.string.C w' B 1 [cA] ∧ 1 ≤ c ∧ Below w.heap.size w w' := by
  have h := least_calls A 5 five cB cC w h (Nat.le_refl _)
  rw [five_least] at h
  refine h.mono ?_
  rintro e w' ⟨v, rfl, hR, hb⟩
  obtain ⟨B, c, rfl, hc, hC⟩ := Row.reads hR
  exact ⟨B, c, rfl, hC, hc, hb⟩
theorem san_one : Calls Try.prog 21 #[.slice A 5 5, .string cD, .string cB] w fun e w' => ∃ B c, e = .returned (.tuple #[.slice B 1 c, .int .i64 0]) ∧ Kd.string.C w' B 1 [cB] ∧ 1 ≤ c ∧ Below w.heap.size w w' := by
  have h := least_calls A 5 five cD cB w h (Nat.le_refl _)
  rw [five_one] at h
  refine h.mono ?_
  rintro e w' ⟨v, rfl, hR, hb⟩
  obtain ⟨B, c, rfl, hc, hC⟩ := Row.reads hR
  exact ⟨B, c, rfl, hC, hc, hb⟩
theorem san_needless : Calls Try.prog 25 #[.slice A 5 5] w fun e w' => ∃ B c, e = .returned (.tuple #[.slice B 1 c, .int .i64 0]) ∧ k73.C w' B 1 [⟨cE, cA⟩] ∧ 1 ≤ c ∧ Below w.heap.size w w' := by
  have h := needless_calls A 5 five w h (Nat.le_refl _)
  rw [five_spare] at h
  refine h.mono ?_
  rintro e w' ⟨v, rfl, hR, hb⟩
  obtain ⟨B, c, rfl, hc, hC⟩ := RowK.reads hR
  exact ⟨B, c, rfl, hC, hc, hb⟩
theorem san_touched (A1 : Option Addr) (hn : Kd.string.C w A1 1 [cC]) : Calls Try.prog 27 #[.slice A 5 5, .slice A1 1 1] w fun e w' => ∃ B c, e = .returned (.tuple #[.slice B 3 c, .int .i64 0]) ∧ Kd.string.C w' B 3 [cC, cD, cE] ∧ 3 ≤ c ∧ Below w.heap.size w w' := by
  have h := touched_calls A A1 5 1 five [cC] w h (Nat.le_refl _) hn
  rw [five_touched] at h
  refine h.mono ?_
  rintro e w' ⟨v, rfl, hR, hb⟩
  obtain ⟨B, c, rfl, hc, hC⟩ := Row.reads hR
  exact ⟨B, c, rfl, hC, hc, hb⟩
end
theorem san_check (A : Option Addr) (c0 : Nat) (w : World) (h : k61.C w A 5 badL) (hc : 5 ≤ c0) : Calls Try.prog 43 #[.slice A 5 c0] w fun e w' => e = .returned (.tuple #[.int .i64 7, .string cA]) ∧ Below w.heap.size w w' := by
  have h := check_calls A c0 badL w h hc
  rw [bad_check] at h
  exact h
theorem san_ring (A : Option Addr) (c0 : Nat) (w : World) (h : k61.C w A 5 badL) (hc : 5 ≤ c0) : Calls Try.prog 45 #[.slice A 5 c0] w fun e w' => ∃ B c, e = .returned (.tuple #[.slice B 3 c, .bool true]) ∧ Kd.string.C w' B 3 [cA, cD, cB] ∧ 3 ≤ c ∧ Below w.heap.size w w' := by
  have h := ring_calls A c0 badL w h hc (by decide) (fun x hx => by
    have : badL.all (fun x => decide (x.f3.length ≤ 1100000000000)) = true := by kernel_rfl
    exact of_decide_eq_true (List.all_eq_true.1 this x hx))
  rw [bad_ring] at h
  refine h.mono ?_
  rintro e w' ⟨v, rfl, hR, hb⟩
  obtain ⟨B, c, rfl, hc, hC⟩ := Row.reads hR
  exact ⟨B, c, rfl, hC, hc, hb⟩
theorem san_names (xs : List ByteArray) (A0 A1 : Option Addr) (c0 c1 : Nat) (w : World) (h0 : Kd.string.C w A0 xs.length xs) (hc0 : xs.length ≤ c0) (h1 : Kd.string.C w A1 xs.length xs) (hc1 : xs.length ≤ c1) (h : cosignerref03_SameNames.f 9 xs xs = some true) :
    Calls Try.prog 23 #[.slice A0 xs.length c0, .slice A1 xs.length c1] w fun e w' => e = .returned (.bool true) ∧ Below w.heap.size w w' :=
  (cosignerref03_SameNames.calls 9 A0 c0 xs A1 c1 xs true w h0 hc0 h1 hc1 h).mono (fun e w2 h => ⟨h.1, h.2.below⟩)
theorem san_lists (xs : List (List ByteArray)) (A0 A1 : Option Addr) (c0 c1 : Nat) (w : World) (h0 : (Kd.slice 9 Kd.string).C w A0 xs.length xs) (hc0 : xs.length ≤ c0) (h1 : (Kd.slice 9 Kd.string).C w A1 xs.length xs) (hc1 : xs.length ≤ c1) (h : cosignerref03_SameLists.f 9 xs xs = some true) :
    Calls Try.prog 24 #[.slice A0 xs.length c0, .slice A1 xs.length c1] w fun e w' => e = .returned (.bool true) ∧ Below w.heap.size w w' :=
  (cosignerref03_SameLists.calls 9 A0 c0 xs A1 c1 xs true w h0 hc0 h1 hc1 h).mono (fun e w2 h => ⟨h.1, h.2.below⟩)
theorem san_links (xs : List S73) (A0 A1 : Option Addr) (c0 c1 : Nat) (w : World) (h0 : k73.C w A0 xs.length xs) (hc0 : xs.length ≤ c0) (h1 : k73.C w A1 xs.length xs) (hc1 : xs.length ≤ c1) (h : cosignerref03_SameLinks.f 9 xs xs = some true) :
    Calls Try.prog 29 #[.slice A0 xs.length c0, .slice A1 xs.length c1] w fun e w' => e = .returned (.bool true) ∧ Below w.heap.size w w' :=
  (cosignerref03_SameLinks.calls 9 A0 c0 xs A1 c1 xs true w h0 hc0 h1 hc1 h).mono (fun e w2 h => ⟨h.1, h.2.below⟩)
theorem info_c : (Try.prog.info? 61).map (fun i => (i.zero, i.size, i.bytes)) = some (some (.agg #[.string ⟨#[]⟩, .bool false, .slice none 0 0, .slice none 0 0, .slice none 0 0, .slice none 0 0, .slice none 0 0]), 7, 144) := by kernel_rfl
theorem fixed_lit {α : Type} (d : Kd α) (W : World) (e : TypeId) (xs : List α) (inner : List Value) (hm : xs.length ≤ 9223372036854775807) (h : Reps (d.K W) d.sz xs inner) :
    (Kd.fixed d W).R e (W.alloc (.cells inner.toArray e)) W.heap.size (fun _ => True) (.slice (some ⟨W.heap.size, 0, none⟩) xs.length xs.length) xs := by
  refine ⟨fun _ _ => trivial, inner, ?_, h.imp_ (fun p c hp => hp)⟩
  have h2 := World.ownsRow_lit (base := W.heap.size) (e := e) (size := d.sz) W inner.toArray xs.length (Nat.le_refl _) (by simpa [maxLen] using hm) (by simpa using h.1)
  show (W.alloc (.cells inner.toArray e)).ownsRow W.heap.size e d.sz _ _ _
  simpa using h2
theorem unfixed {α : Type} {d : Kd α} {W W' : World} {A : Option Addr} {n : Nat} {xs : List α} (h : (Kd.fixed d W).C W' A n xs) (hb : Below W.heap.size W W') : d.C W' A n xs := ReadsRow.imp_ h (Below.refl _ _) (fun _ _ hp => d.K_below hb hp)
theorem bad_rows {w : World} {ad : Addr} (h : k61.C w (some ad) 5 five) : k61.C w (some ⟨ad.block, ad.off + 7, none⟩) 4 (five.drop 1) := by
  have := Kd.C_drop (c := 5) (m := 1) (xs := five) h (by decide) (by decide)
  exact this
theorem lists_lit (W : World) : (Kd.slice 9 Kd.string).C (((((W.alloc (.cells #[.string cA] 9)).alloc (.cells #[.string cB, .string cC] 9)).alloc (.cells #[.string cD] 9)).alloc (.cells #[.string cE] 9)).alloc
      (.cells #[.slice (some ⟨W.heap.size, 0, none⟩) 1 1, .slice (some ⟨W.heap.size + 1, 0, none⟩) 2 2, .slice (some ⟨W.heap.size + 1 + 1, 0, none⟩) 1 1, .slice (some ⟨W.heap.size + 1 + 1 + 1, 0, none⟩) 1 1] 25)) (some ⟨W.heap.size + 1 + 1 + 1 + 1, 0, none⟩) 4 [[cA], [cB, cC], [cD], [cE]] := by
  have h1 := C_strs W [cA] (by decide)
  have h2 := C_strs (W.alloc (.cells #[.string cA] 9)) [cB, cC] (by decide)
  have h3 := C_strs ((W.alloc (.cells #[.string cA] 9)).alloc (.cells #[.string cB, .string cC] 9)) [cD] (by decide)
  have h4 := C_strs (((W.alloc (.cells #[.string cA] 9)).alloc (.cells #[.string cB, .string cC] 9)).alloc (.cells #[.string cD] 9)) [cE] (by decide)
  simp only [World.size_alloc] at h2 h3 h4
  have h := C_lit (Kd.slice 9 Kd.string) ((((W.alloc (.cells #[.string cA] 9)).alloc (.cells #[.string cB, .string cC] 9)).alloc (.cells #[.string cD] 9)).alloc (.cells #[.string cE] 9)) 25 [[cA], [cB, cC], [cD], [cE]]
    [.slice (some ⟨W.heap.size, 0, none⟩) 1 1, .slice (some ⟨W.heap.size + 1, 0, none⟩) 2 2, .slice (some ⟨W.heap.size + 1 + 1, 0, none⟩) 1 1, .slice (some ⟨W.heap.size + 1 + 1 + 1, 0, none⟩) 1 1] (by decide)
    (Reps.one ⟨_, _, rfl, Nat.le_refl _, Kd.C_alloc (Kd.C_alloc (Kd.C_alloc h1 _) _) _⟩ (Reps.one ⟨_, _, rfl, Nat.le_refl _, Kd.C_alloc (Kd.C_alloc h2 _) _⟩ (Reps.one ⟨_, _, rfl, Nat.le_refl _, Kd.C_alloc h3 _⟩ (Reps.one ⟨_, _, rfl, Nat.le_refl _, h4⟩ (Reps.none _ _)))))
  simp only [World.size_alloc] at h
  exact h
theorem link_lit (W : World) : k73.C (W.alloc (.cells #[.string cE, .string cA] 73)) (some ⟨W.heap.size, 0, none⟩) 1 [⟨cE, cA⟩] := C_lit k73 W 73 [⟨cE, cA⟩] [.string cE, .string cA] (by decide) (Reps.c2 ⟨[.string cE], [.string cA], rfl, rfl, rfl⟩ (Reps.none _ _))
theorem below_of_alloc_drew {w1 W : World} {o : Obj} (hb : Below (w1.alloc o).drew.heap.size (w1.alloc o).drew W) : Below w1.heap.size w1 W := ((Below.refl _ _).alloc (Nat.le_refl _) o).drew.trans (hb.mono (by show _ ≤ (w1.alloc o).heap.size; simp))
theorem rows_run {w : World} {x : S61} {cs : List Value} (hx : k61.K w x cs) {a : Addr} {ys : List S61} {m : Nat} (hy : k61.C w (some a) m ys) (hm : m ≤ 1000) (cp : Nat) :
    ∃ v1 w1, (appendK #[22, 22] 22 #[.slice (some ⟨w.heap.size, 0, none⟩) 1 1, .slice (some a) m cp]).run Try.prog (w.alloc (.cells cs.toArray 61)) = .ok v1 w1 ∧
      (∃ A c, v1 = .slice A (1 + m) c ∧ 1 + m ≤ c ∧ k61.C w1 A (1 + m) (x :: ys)) ∧ Below w.heap.size w w1 := by
  obtain ⟨_, inner, hown, hreps⟩ := fixed_lit k61 w 61 [x] cs (by simp) ⟨by simpa using k61.K_len hx, fun j p hj => by
    cases j with
    | zero =>
      simp only [List.getElem?_cons_zero, Option.some.injEq] at hj
      subst hj
      rw [Nat.zero_mul, List.drop_zero, List.take_of_length_le (Nat.le_of_eq (k61.K_len hx))]
      exact hx
    | succ j => simp at hj⟩
  have hml : ys.length = m := hy.1
  have hbW : Below w.heap.size w (w.alloc (.cells cs.toArray 61)) := (Below.refl _ _).alloc (Nat.le_refl _) _
  have hyW : ReadsRow (k61.K w) k61.sz (w.alloc (.cells cs.toArray 61)) (some a) m ys := ReadsRow.imp_ hy hbW (fun _ _ h => h)
  obtain ⟨inner2, hr2, hc2⟩ := hyW.inner_
  obtain ⟨i, hi, hz⟩ := Option.map_eq_some_iff.1 info_c
  simp only [Prod.mk.injEq] at hz
  have h1 : ∀ u ∈ inner2, u.oneCell' = true := by
    intro u hu
    obtain ⟨k, hk, rfl⟩ := List.mem_iff_getElem.1 hu
    have hl2 := hr2.1
    have h7 : k61.sz = 7 := rfl
    rw [h7] at hl2
    have hj : k / 7 < ys.length := by omega
    have h3 := k61.K_one (hr2.2 (k / 7) _ (List.getElem?_eq_getElem hj))
    refine h3 _ ?_
    rw [h7]
    refine List.mem_iff_getElem?.2 ⟨k % 7, ?_⟩
    rw [List.getElem?_take, if_pos (Nat.mod_lt _ (by omega)), List.getElem?_drop, show k / 7 * 7 + k % 7 = k by omega, List.getElem?_eq_getElem hk]
  obtain ⟨v1, w1, hrun, r1, r2, r3, r4⟩ := run_append_own_at (P := Try.prog) (w := w.alloc (.cells cs.toArray 61)) w.heap.size 22 22 61 i _ 7 144 Try.underlying22 hi hz.1 hz.2.1 hz.2.2 rfl (by decide) _ 1 _ hown a m cp inner2
    (by rw [hr2.1, hml]; rfl) (by simpa using hc2) h1 (by simp only [maxLen]; omega) (by omega) (by simp)
  have hb1 : Below w.heap.size w w1 := hbW.grown r2 (by simp) (fun k e => by cases e; exact Nat.le_refl _)
  refine ⟨v1, w1, hrun, ?_, hb1⟩
  have hR : (Kd.fixed k61 w).R 61 w1 w.heap.size (fun _ => True) v1 (x :: ys) := by
    refine ⟨fun _ _ => trivial, inner ++ inner2, ?_, ?_⟩
    · rw [List.length_cons, hml, Nat.add_comm]; exact r1
    · exact Kd.reps_append (hreps.imp_ (fun _ _ h => h)) (hr2.imp_ (fun _ _ h => h))
  obtain ⟨A, c, rfl, hc, hC⟩ := Kd.R_reads hR
  have hl : (x :: ys).length = 1 + m := by rw [List.length_cons, hml, Nat.add_comm]
  rw [hl] at hc hC ⊢
  exact ⟨A, c, rfl, hc, unfixed hC hb1⟩
end Go.Proofs.Ytdljclokenoogaa.Hw
end
section
namespace Go.Proofs.Ytdljclokenoogaa.Hw
open Go.RowKit Go.Proofs.Ytdljclokenoogaa.Hp Go.Proofs.YtdljclokenoogaaW.PrintWords Go.Proofs.YtdljclokenoogaaW.PrintLast Go.Proofs.YtdljclokenoogaaW.PrintMore
attribute [local go_sem] Oper.semAt_some
attribute [local go_sem ↓] append_k
set_option maxRecDepth 100000 in
set_option maxHeartbeats 16000000 in
theorem sanity_calls (w : World) : Calls Try.prog 16 #[] w fun e w' => e = .returned (.bool true) ∧ Below w.heap.size w w' := by
  refine (callsIn_wide (n := 20)).1 ?_
  refine callsIn_of_wp Try.func16 rfl trivial ?_
  simp only [Try.ntmps16, List.size_toArray, List.length_cons, List.length_nil, Nat.reduceAdd, Nat.reduceSub, Array.replicate_succ, Array.replicate_zero, List.push_toArray, List.append_toArray, List.nil_append, List.cons_append]
  gi_wp2_with fail
  refine (callsIn_wide.2 (five_calls w)).mono ?_
  rintro e w1 ⟨a1, rfl, hC, hB⟩
  have F1 := Lib.hid hC
  clear hC
  gi_wp2_with fail
  refine (callsIn_wide.2 (san_above a1 _ F1.out)).mono ?_
  rintro e w2 ⟨a2, c2, rfl, hC, hc2, hb⟩
  replace F1 := Lib.hid (Kd.C_below F1.out hb)
  replace hB := hB.trans (hb.mono hB.size)
  clear hb
  have F2 := Lib.hid hC
  clear hC
  gi_wp2_with fail
  refine (callsIn_wide.2 (san_ways a1 _ F1.out)).mono ?_
  rintro e w3 ⟨rfl, hb⟩
  replace F1 := Lib.hid (Kd.C_below F1.out hb)
  replace F2 := Lib.hid (Kd.C_below F2.out hb)
  replace hB := hB.trans (hb.mono hB.size)
  clear hb
  gi_wp2_with fail
  refine (callsIn_wide.2 (san_way a1 _ F1.out)).mono ?_
  rintro e w4 ⟨a6, c6, rfl, hC, hc6, hb⟩
  replace F1 := Lib.hid (Kd.C_below F1.out hb)
  replace F2 := Lib.hid (Kd.C_below F2.out hb)
  replace hB := hB.trans (hb.mono hB.size)
  clear hb
  have F6 := Lib.hid hC
  clear hC
  gi_wp2_with fail
  refine (callsIn_wide.2 (san_order a1 _ F1.out)).mono ?_
  rintro e w5 ⟨a8, c8, rfl, hC, hc8, hb⟩
  replace F1 := Lib.hid (Kd.C_below F1.out hb)
  replace F2 := Lib.hid (Kd.C_below F2.out hb)
  replace F6 := Lib.hid (Kd.C_below F6.out hb)
  replace hB := hB.trans (hb.mono hB.size)
  clear hb
  have F8 := Lib.hid hC
  clear hC
  gi_wp2_with fail
  refine (callsIn_wide.2 (san_levels a1 _ F1.out)).mono ?_
  rintro e w6 ⟨a10, c10, rfl, hC, hc10, hb⟩
  replace F1 := Lib.hid (Kd.C_below F1.out hb)
  replace F2 := Lib.hid (Kd.C_below F2.out hb)
  replace F6 := Lib.hid (Kd.C_below F6.out hb)
  replace F8 := Lib.hid (Kd.C_below F8.out hb)
  replace hB := hB.trans (hb.mono hB.size)
  clear hb
  have F10 := Lib.hid hC
  clear hC
  gi_wp2_with fail
  refine (callsIn_wide.2 (san_least a1 _ F1.out)).mono ?_
  rintro e w7 ⟨a12, c12, rfl, hC, hc12, hb⟩
  replace F1 := Lib.hid (Kd.C_below F1.out hb)
  replace F2 := Lib.hid (Kd.C_below F2.out hb)
  replace F6 := Lib.hid (Kd.C_below F6.out hb)
  replace F8 := Lib.hid (Kd.C_below F8.out hb)
  replace F10 := Lib.hid (Kd.C_below F10.out hb)
  replace hB := hB.trans (hb.mono hB.size)
  clear hb
  have F12 := Lib.hid hC
  clear hC
  gi_wp2_with fail
  refine (callsIn_wide.2 (san_one a1 _ F1.out)).mono ?_
  rintro e w8 ⟨a14, c14, rfl, hC, hc14, hb⟩
  replace F1 := Lib.hid (Kd.C_below F1.out hb)
  replace F2 := Lib.hid (Kd.C_below F2.out hb)
  replace F6 := Lib.hid (Kd.C_below F6.out hb)
  replace F8 := Lib.hid (Kd.C_below F8.out hb)
  replace F10 := Lib.hid (Kd.C_below F10.out hb)
  replace F12 := Lib.hid (Kd.C_below F12.out hb)
  replace hB := hB.trans (hb.mono hB.size)
  clear hb
  have F14 := Lib.hid hC
  clear hC
  gi_wp2_with fail
  refine (callsIn_wide.2 (san_needless a1 _ F1.out)).mono ?_
  rintro e w9 ⟨a16, c16, rfl, hC, hc16, hb⟩
  replace F1 := Lib.hid (Kd.C_below F1.out hb)
  replace F2 := Lib.hid (Kd.C_below F2.out hb)
  replace F6 := Lib.hid (Kd.C_below F6.out hb)
  replace F8 := Lib.hid (Kd.C_below F8.out hb)
  replace F10 := Lib.hid (Kd.C_below F10.out hb)
  replace F12 := Lib.hid (Kd.C_below F12.out hb)
  replace F14 := Lib.hid (Kd.C_below F14.out hb)
  replace hB := hB.trans (hb.mono hB.size)
  clear hb
  have F16 := Lib.hid hC
  clear hC
  have hL := C_strs w9 [cC] (by decide)
  have hF := Kd.C_alloc F1.out (.cells (([cC] : List ByteArray).map (fun x => Value.string x)).toArray 9)
  gi_wp2_with fail
  refine (callsIn_wide.2 (san_touched a1 _ hF _ hL)).mono ?_
  rintro e w10 ⟨a18, c18, rfl, hC, hc18, hb⟩
  replace hb := below_of_alloc hb
  replace F1 := Lib.hid (Kd.C_below F1.out hb)
  replace F2 := Lib.hid (Kd.C_below F2.out hb)
  replace F6 := Lib.hid (Kd.C_below F6.out hb)
  replace F8 := Lib.hid (Kd.C_below F8.out hb)
  replace F10 := Lib.hid (Kd.C_below F10.out hb)
  replace F12 := Lib.hid (Kd.C_below F12.out hb)
  replace F14 := Lib.hid (Kd.C_below F14.out hb)
  replace F16 := Lib.hid (Kd.C_below F16.out hb)
  replace hB := hB.trans (hb.mono hB.size)
  clear hb
  have F18 := Lib.hid hC
  clear hC
  clear hL hF
  gi_wp2_with fail
  obtain ⟨ad, rfl⟩ : ∃ ad, a1 = some ad := by obtain ⟨ad, e, _⟩ := F1.out.2.2 (by decide); exact ⟨ad, e⟩
  have hfol : Try.prog.follows Departure.mixedOrders = true := by kernel_rfl
  have hL := Kd.C_drew (C_strs w10 [cD] (by decide))
  gi_region_with_o (first
    | (gi_at_call 54; refine (callsIn_wide.2 (class_made cA _ 1 [cD] _ hL (Nat.le_refl _) (by kernel_rfl))).mono ?_; rintro e w11 ⟨B2, d2, B3, d3, B4, d4, B5, d5, B6, d6, rfl, hK, hb⟩; replace hb := below_of_alloc_drew hb; obtain ⟨v20, w12, hrun, ⟨a20, c20, rfl, hc20, hC⟩, hb12⟩ := rows_run hK (bad_rows (Kd.C_below F1.out hb)) (by decide) 4; simp only [List.length_singleton, Nat.reduceAdd] at hrun hC hc20; have F20 := Lib.hid hC; clear hK hC hL))
  replace hb := hb.trans (hb12.mono hb.size)
  clear hb12 hrun hfol
  replace F1 := Lib.hid (Kd.C_below F1.out hb)
  replace F2 := Lib.hid (Kd.C_below F2.out hb)
  replace F6 := Lib.hid (Kd.C_below F6.out hb)
  replace F8 := Lib.hid (Kd.C_below F8.out hb)
  replace F10 := Lib.hid (Kd.C_below F10.out hb)
  replace F12 := Lib.hid (Kd.C_below F12.out hb)
  replace F14 := Lib.hid (Kd.C_below F14.out hb)
  replace F16 := Lib.hid (Kd.C_below F16.out hb)
  replace F18 := Lib.hid (Kd.C_below F18.out hb)
  replace hB := hB.trans (hb.mono hB.size)
  clear hb
  gi_wp2_with fail
  refine (callsIn_wide.2 (san_check a20 c20 _ F20.out hc20)).mono ?_
  rintro e w13 ⟨rfl, hb⟩
  replace F1 := Lib.hid (Kd.C_below F1.out hb)
  replace F2 := Lib.hid (Kd.C_below F2.out hb)
  replace F6 := Lib.hid (Kd.C_below F6.out hb)
  replace F8 := Lib.hid (Kd.C_below F8.out hb)
  replace F10 := Lib.hid (Kd.C_below F10.out hb)
  replace F12 := Lib.hid (Kd.C_below F12.out hb)
  replace F14 := Lib.hid (Kd.C_below F14.out hb)
  replace F16 := Lib.hid (Kd.C_below F16.out hb)
  replace F18 := Lib.hid (Kd.C_below F18.out hb)
  replace F20 := Lib.hid (Kd.C_below F20.out hb)
  replace hB := hB.trans (hb.mono hB.size)
  clear hb
  gi_wp2_with fail
  refine (callsIn_wide.2 (san_ring a20 c20 _ F20.out hc20)).mono ?_
  rintro e w14 ⟨a23, c23, rfl, hC, hc23, hb⟩
  replace F1 := Lib.hid (Kd.C_below F1.out hb)
  replace F2 := Lib.hid (Kd.C_below F2.out hb)
  replace F6 := Lib.hid (Kd.C_below F6.out hb)
  replace F8 := Lib.hid (Kd.C_below F8.out hb)
  replace F10 := Lib.hid (Kd.C_below F10.out hb)
  replace F12 := Lib.hid (Kd.C_below F12.out hb)
  replace F14 := Lib.hid (Kd.C_below F14.out hb)
  replace F16 := Lib.hid (Kd.C_below F16.out hb)
  replace F18 := Lib.hid (Kd.C_below F18.out hb)
  replace F20 := Lib.hid (Kd.C_below F20.out hb)
  replace hB := hB.trans (hb.mono hB.size)
  clear hb
  have F23 := Lib.hid hC
  clear hC
  have hL := C_strs w14 [cA, cB, cC, cD, cE] (by decide)
  have hF := Kd.C_alloc F2.out (.cells (([cA, cB, cC, cD, cE] : List ByteArray).map (fun x => Value.string x)).toArray 9)
  gi_wp2_with fail
  refine (callsIn_wide.2 (san_names [cA, cB, cC, cD, cE] a2 _ c2 _ _ hF hc2 hL (Nat.le_refl _) (by kernel_rfl))).mono ?_
  rintro e w15 ⟨rfl, hb⟩
  replace hb := below_of_alloc hb
  replace F1 := Lib.hid (Kd.C_below F1.out hb)
  replace F2 := Lib.hid (Kd.C_below F2.out hb)
  replace F6 := Lib.hid (Kd.C_below F6.out hb)
  replace F8 := Lib.hid (Kd.C_below F8.out hb)
  replace F10 := Lib.hid (Kd.C_below F10.out hb)
  replace F12 := Lib.hid (Kd.C_below F12.out hb)
  replace F14 := Lib.hid (Kd.C_below F14.out hb)
  replace F16 := Lib.hid (Kd.C_below F16.out hb)
  replace F18 := Lib.hid (Kd.C_below F18.out hb)
  replace F20 := Lib.hid (Kd.C_below F20.out hb)
  replace F23 := Lib.hid (Kd.C_below F23.out hb)
  replace hB := hB.trans (hb.mono hB.size)
  clear hb
  clear hL hF
  have hL := C_strs w15 [cE, cA] (by decide)
  have hF := Kd.C_alloc F6.out (.cells (([cE, cA] : List ByteArray).map (fun x => Value.string x)).toArray 9)
  gi_wp2_with fail
  refine (callsIn_wide.2 (san_names [cE, cA] a6 _ c6 _ _ hF hc6 hL (Nat.le_refl _) (by kernel_rfl))).mono ?_
  rintro e w16 ⟨rfl, hb⟩
  replace hb := below_of_alloc hb
  replace F1 := Lib.hid (Kd.C_below F1.out hb)
  replace F2 := Lib.hid (Kd.C_below F2.out hb)
  replace F6 := Lib.hid (Kd.C_below F6.out hb)
  replace F8 := Lib.hid (Kd.C_below F8.out hb)
  replace F10 := Lib.hid (Kd.C_below F10.out hb)
  replace F12 := Lib.hid (Kd.C_below F12.out hb)
  replace F14 := Lib.hid (Kd.C_below F14.out hb)
  replace F16 := Lib.hid (Kd.C_below F16.out hb)
  replace F18 := Lib.hid (Kd.C_below F18.out hb)
  replace F20 := Lib.hid (Kd.C_below F20.out hb)
  replace F23 := Lib.hid (Kd.C_below F23.out hb)
  replace hB := hB.trans (hb.mono hB.size)
  clear hb
  clear hL hF
  gi_wp2_with fail
  refine (callsIn_wide.2 (san_names [cA, cB, cC, cD, cE] a8 a2 c8 c2 _ F8.out hc8 F2.out hc2 (by kernel_rfl))).mono ?_
  rintro e w17 ⟨rfl, hb⟩
  replace F1 := Lib.hid (Kd.C_below F1.out hb)
  replace F2 := Lib.hid (Kd.C_below F2.out hb)
  replace F6 := Lib.hid (Kd.C_below F6.out hb)
  replace F8 := Lib.hid (Kd.C_below F8.out hb)
  replace F10 := Lib.hid (Kd.C_below F10.out hb)
  replace F12 := Lib.hid (Kd.C_below F12.out hb)
  replace F14 := Lib.hid (Kd.C_below F14.out hb)
  replace F16 := Lib.hid (Kd.C_below F16.out hb)
  replace F18 := Lib.hid (Kd.C_below F18.out hb)
  replace F20 := Lib.hid (Kd.C_below F20.out hb)
  replace F23 := Lib.hid (Kd.C_below F23.out hb)
  replace hB := hB.trans (hb.mono hB.size)
  clear hb
  have hL := lists_lit w17
  gi_wp2_with fail
  refine (callsIn_wide.2 (san_lists [[cA], [cB, cC], [cD], [cE]] a10 _ c10 _ _ (Kd.C_alloc (Kd.C_alloc (Kd.C_alloc (Kd.C_alloc (Kd.C_alloc F10.out _) _) _) _) _) hc10 hL (Nat.le_refl _) (by kernel_rfl))).mono ?_
  rintro e w18 ⟨rfl, hb⟩
  replace hb := below_of_alloc hb
  replace hb := below_of_alloc hb
  replace hb := below_of_alloc hb
  replace hb := below_of_alloc hb
  replace hb := below_of_alloc hb
  replace F1 := Lib.hid (Kd.C_below F1.out hb)
  replace F2 := Lib.hid (Kd.C_below F2.out hb)
  replace F6 := Lib.hid (Kd.C_below F6.out hb)
  replace F8 := Lib.hid (Kd.C_below F8.out hb)
  replace F10 := Lib.hid (Kd.C_below F10.out hb)
  replace F12 := Lib.hid (Kd.C_below F12.out hb)
  replace F14 := Lib.hid (Kd.C_below F14.out hb)
  replace F16 := Lib.hid (Kd.C_below F16.out hb)
  replace F18 := Lib.hid (Kd.C_below F18.out hb)
  replace F20 := Lib.hid (Kd.C_below F20.out hb)
  replace F23 := Lib.hid (Kd.C_below F23.out hb)
  replace hB := hB.trans (hb.mono hB.size)
  clear hb
  clear hL
  have hL := C_strs w18 [cA] (by decide)
  have hF := Kd.C_alloc F12.out (.cells (([cA] : List ByteArray).map (fun x => Value.string x)).toArray 9)
  gi_wp2_with fail
  refine (callsIn_wide.2 (san_names [cA] a12 _ c12 _ _ hF hc12 hL (Nat.le_refl _) (by kernel_rfl))).mono ?_
  rintro e w19 ⟨rfl, hb⟩
  replace hb := below_of_alloc hb
  replace F1 := Lib.hid (Kd.C_below F1.out hb)
  replace F2 := Lib.hid (Kd.C_below F2.out hb)
  replace F6 := Lib.hid (Kd.C_below F6.out hb)
  replace F8 := Lib.hid (Kd.C_below F8.out hb)
  replace F10 := Lib.hid (Kd.C_below F10.out hb)
  replace F12 := Lib.hid (Kd.C_below F12.out hb)
  replace F14 := Lib.hid (Kd.C_below F14.out hb)
  replace F16 := Lib.hid (Kd.C_below F16.out hb)
  replace F18 := Lib.hid (Kd.C_below F18.out hb)
  replace F20 := Lib.hid (Kd.C_below F20.out hb)
  replace F23 := Lib.hid (Kd.C_below F23.out hb)
  replace hB := hB.trans (hb.mono hB.size)
  clear hb
  clear hL hF
  have hL := C_strs w19 [cB] (by decide)
  have hF := Kd.C_alloc F14.out (.cells (([cB] : List ByteArray).map (fun x => Value.string x)).toArray 9)
  gi_wp2_with fail
  refine (callsIn_wide.2 (san_names [cB] a14 _ c14 _ _ hF hc14 hL (Nat.le_refl _) (by kernel_rfl))).mono ?_
  rintro e w20 ⟨rfl, hb⟩
  replace hb := below_of_alloc hb
  replace F1 := Lib.hid (Kd.C_below F1.out hb)
  replace F2 := Lib.hid (Kd.C_below F2.out hb)
  replace F6 := Lib.hid (Kd.C_below F6.out hb)
  replace F8 := Lib.hid (Kd.C_below F8.out hb)
  replace F10 := Lib.hid (Kd.C_below F10.out hb)
  replace F12 := Lib.hid (Kd.C_below F12.out hb)
  replace F14 := Lib.hid (Kd.C_below F14.out hb)
  replace F16 := Lib.hid (Kd.C_below F16.out hb)
  replace F18 := Lib.hid (Kd.C_below F18.out hb)
  replace F20 := Lib.hid (Kd.C_below F20.out hb)
  replace F23 := Lib.hid (Kd.C_below F23.out hb)
  replace hB := hB.trans (hb.mono hB.size)
  clear hb
  clear hL hF
  have hL := link_lit w20
  gi_wp2_with fail
  refine (callsIn_wide.2 (san_links [⟨cE, cA⟩] a16 _ c16 _ _ (Kd.C_alloc F16.out _) hc16 hL (Nat.le_refl _) (by kernel_rfl))).mono ?_
  rintro e w21 ⟨rfl, hb⟩
  replace hb := below_of_alloc hb
  replace F1 := Lib.hid (Kd.C_below F1.out hb)
  replace F2 := Lib.hid (Kd.C_below F2.out hb)
  replace F6 := Lib.hid (Kd.C_below F6.out hb)
  replace F8 := Lib.hid (Kd.C_below F8.out hb)
  replace F10 := Lib.hid (Kd.C_below F10.out hb)
  replace F12 := Lib.hid (Kd.C_below F12.out hb)
  replace F14 := Lib.hid (Kd.C_below F14.out hb)
  replace F16 := Lib.hid (Kd.C_below F16.out hb)
  replace F18 := Lib.hid (Kd.C_below F18.out hb)
  replace F20 := Lib.hid (Kd.C_below F20.out hb)
  replace F23 := Lib.hid (Kd.C_below F23.out hb)
  replace hB := hB.trans (hb.mono hB.size)
  clear hb
  clear hL
  have hL := C_strs w21 [cC, cD, cE] (by decide)
  have hF := Kd.C_alloc F18.out (.cells (([cC, cD, cE] : List ByteArray).map (fun x => Value.string x)).toArray 9)
  gi_wp2_with fail
  refine (callsIn_wide.2 (san_names [cC, cD, cE] a18 _ c18 _ _ hF hc18 hL (Nat.le_refl _) (by kernel_rfl))).mono ?_
  rintro e w22 ⟨rfl, hb⟩
  replace hb := below_of_alloc hb
  replace F1 := Lib.hid (Kd.C_below F1.out hb)
  replace F2 := Lib.hid (Kd.C_below F2.out hb)
  replace F6 := Lib.hid (Kd.C_below F6.out hb)
  replace F8 := Lib.hid (Kd.C_below F8.out hb)
  replace F10 := Lib.hid (Kd.C_below F10.out hb)
  replace F12 := Lib.hid (Kd.C_below F12.out hb)
  replace F14 := Lib.hid (Kd.C_below F14.out hb)
  replace F16 := Lib.hid (Kd.C_below F16.out hb)
  replace F18 := Lib.hid (Kd.C_below F18.out hb)
  replace F20 := Lib.hid (Kd.C_below F20.out hb)
  replace F23 := Lib.hid (Kd.C_below F23.out hb)
  replace hB := hB.trans (hb.mono hB.size)
  clear hb
  clear hL hF
  have hL := C_strs w22 [cA, cD, cB] (by decide)
  have hF := Kd.C_alloc F23.out (.cells (([cA, cD, cB] : List ByteArray).map (fun x => Value.string x)).toArray 9)
  gi_wp2_with fail
  refine (callsIn_wide.2 (san_names [cA, cD, cB] a23 _ c23 _ _ hF hc23 hL (Nat.le_refl _) (by kernel_rfl))).mono ?_
  rintro e w23 ⟨rfl, hb⟩
  replace hb := below_of_alloc hb
  replace F1 := Lib.hid (Kd.C_below F1.out hb)
  replace F2 := Lib.hid (Kd.C_below F2.out hb)
  replace F6 := Lib.hid (Kd.C_below F6.out hb)
  replace F8 := Lib.hid (Kd.C_below F8.out hb)
  replace F10 := Lib.hid (Kd.C_below F10.out hb)
  replace F12 := Lib.hid (Kd.C_below F12.out hb)
  replace F14 := Lib.hid (Kd.C_below F14.out hb)
  replace F16 := Lib.hid (Kd.C_below F16.out hb)
  replace F18 := Lib.hid (Kd.C_below F18.out hb)
  replace F20 := Lib.hid (Kd.C_below F20.out hb)
  replace F23 := Lib.hid (Kd.C_below F23.out hb)
  replace hB := hB.trans (hb.mono hB.size)
  clear hb
  clear hL hF
  gi_wp2_with fail
  go_ret
  exact ⟨rfl, hB⟩
end Go.Proofs.Ytdljclokenoogaa.Hw
end
section
namespace Go.Proofs.Ytdljclokenoogaa.Hw
open Go.RowKit Go.Proofs.Ytdljclokenoogaa.Hp Go.Proofs.YtdljclokenoogaaW.PrintWords Go.Proofs.YtdljclokenoogaaW.PrintLast Go.Proofs.YtdljclokenoogaaW.PrintMore
attribute [local go_sem] Oper.semAt_some
def linkB (l : List S61) (ns : List ByteArray) (i : Nat) : Bool := memS (ups l (nth ns i)) (nth ns ((i + 1) % ns.length))
def checkRingOf (l : List S61) (ns : List ByteArray) : Int :=
  if 24 < l.length ∨ 24 < ns.length then 3 else if ns.length = 0 ∨ dupB ns = true then 11 else if (List.range ns.length).all (linkB l ns) then 0 else 11
set_option maxRecDepth 100000 in
set_option maxHeartbeats 8000000 in
theorem checkRing_calls (A0 A1 : Option Addr) (c0 c1 : Nat) (l : List S61) (ns : List ByteArray) (w : World) (hr : k61.C w A0 l.length l) (hc : l.length ≤ c0) (hup : ∀ x ∈ l, x.f3.length ≤ 1100000000000) (hn : Kd.string.C w A1 ns.length ns) :
    Calls Try.prog 47 #[.slice A0 l.length c0, .slice A1 ns.length c1] w fun e w' => e = .returned (.int .i64 (checkRingOf l ns)) ∧ Below w.heap.size w w' := by
  refine (callsIn_wide (n := 20)).1 ?_
  refine callsIn_of_wp Try.func47 rfl trivial ?_
  simp only [Try.ntmps47, List.size_toArray, List.length_cons, List.length_nil, Nat.reduceAdd, Nat.reduceSub, Array.replicate_succ, Array.replicate_zero, List.push_toArray, List.append_toArray, List.nil_append, List.cons_append]
  have hmax := Kd.C_max hr
  have hmaxn := Kd.C_max hn
  have HR := Lib.hid hr
  have HN := Lib.hid hn
  have HUP := Lib.hid hup
  have hfol : (Try.prog).follows .mixedOrders = true := by kernel_rfl
  clear hr hn hup
  by_cases hl : 24 < l.length
  · have HIO : Hid (checkRingOf l ns = 3) := by show _ = _; unfold checkRingOf; rw [if_pos (.inl hl)]
    gi_wp2_with fail
    all_goals go_ret
    all_goals exact ⟨by rw [HIO.out]; rfl, Below.refl _ _⟩
  · by_cases hn24 : 24 < ns.length
    · have HIO : Hid (checkRingOf l ns = 3) := by show _ = _; unfold checkRingOf; rw [if_pos (.inr hn24)]
      gi_wp2_with fail
      all_goals go_ret
      all_goals exact ⟨by rw [HIO.out]; rfl, Below.refl _ _⟩
    · have HIO0 : Hid (checkRingOf l ns = if ns.length = 0 ∨ dupB ns = true then 11 else if (List.range ns.length).all (linkB l ns) then 0 else 11) := by show _ = _; unfold checkRingOf; rw [if_neg (by omega)]
      by_cases h0 : ns.length = 0
      · have HIO : Hid (checkRingOf l ns = 11) := by show _ = _; rw [HIO0.out, if_pos (.inl h0)]
        have hb : ((ns.length : Int) == 0) = true := by simpa using h0
        have hnil : ns = [] := List.length_eq_zero_iff.1 h0
        have H0 := Lib.hid h0
        clear h0
        gi_wp2_with (gi_at_call 63; refine (callsIn_wide.2 (of_calls _ _ _ _ HR.out hc)).mono ?_; rintro e w1 ⟨B, m, rfl, hB, hM, hK, hb1⟩; have HM := Lib.hid hK; have HMB := Lib.hid hM; have hB1 : Below w.heap.size w (w1.alloc (.cells #[.slice A0 l.length c0, .map (some B)] 99)) := hb1.alloc hb1.size _; clear hK hM)
        go_ret
        exact ⟨by rw [HIO.out]; rfl, hB1⟩
      · have hb : ((ns.length : Int) == 0) = false := by simpa using h0
        have hnil : ¬ ns = [] := fun e => h0 (by rw [e]; rfl)
        have hpos : 0 < ns.length := by omega
        have H0 := Lib.hid h0
        clear h0
        cases hd : dupB ns with
        | true =>
          have HIO : Hid (checkRingOf l ns = 11) := by show _ = _; rw [HIO0.out, if_pos (.inr hd)]
          have HD := Lib.hid hd
          clear hd
          gi_wp2_with (first | (gi_at_call 63; refine (callsIn_wide.2 (of_calls _ _ _ _ HR.out hc)).mono ?_; rintro e w1 ⟨B, m, rfl, hB, hM, hK, hb1⟩; have HM := Lib.hid hK; have HMB := Lib.hid hM; have hB1 : Below w.heap.size w (w1.alloc (.cells #[.slice A0 l.length c0, .map (some B)] 99)) := hb1.alloc hb1.size _; clear hK hM) | (gi_at_call 95; refine (callsIn_wide.2 (twiceS_calls _ _ _ _ (Kd.C_below HN.out hB1))).mono ?_; rintro e w2 ⟨he2, hb2⟩; rw [HD.out] at he2; subst he2))
          go_ret
          exact ⟨by rw [HIO.out]; rfl, hB1.trans (hb2.mono hB1.size)⟩
        | false =>
          have HIO1 : Hid (checkRingOf l ns = if (List.range ns.length).all (linkB l ns) then 0 else 11) := by show _ = _; rw [HIO0.out, if_neg]; rw [hd]; rintro (h | h); exact H0.out h; cases h
          have HD := Lib.hid hd
          clear hd
          gi_wp2_with (first | (gi_at_call 63; refine (callsIn_wide.2 (of_calls _ _ _ _ HR.out hc)).mono ?_; rintro e w1 ⟨B, m, rfl, hB, hM, hK, hb1⟩; have HM := Lib.hid hK; have HMB := Lib.hid hM; have hB1 : Below w.heap.size w (w1.alloc (.cells #[.slice A0 l.length c0, .map (some B)] 99)) := hb1.alloc hb1.size _; clear hK hM) | (gi_at_call 95; refine (callsIn_wide.2 (twiceS_calls _ _ _ _ (Kd.C_below HN.out hB1))).mono ?_; rintro e w2 ⟨he2, hb2⟩; rw [HD.out] at he2; subst he2))
          have hB2 := hB1.trans (hb2.mono hB1.size)
          have hlt1 : w1.heap.size < (w1.alloc (.cells #[.slice A0 l.length c0, .map (some B)] 99)).heap.size := by simp
          have hg0 : w2.cell? ⟨w1.heap.size, 0, none⟩ = some (.slice A0 l.length c0) := (hb2.cell (p := ⟨w1.heap.size, 0, none⟩) hlt1).trans (cell_new _ _ _ _)
          have hg1 : w2.cell? ⟨w1.heap.size, 1, none⟩ = some (.map (some B)) := (hb2.cell (p := ⟨w1.heap.size, 1, none⟩) hlt1).trans (cell_new _ _ _ _)
          have hM2 := (HMB.out.alloc (.cells #[.slice A0 l.length c0, .map (some B)] 99)).below hb2 (by have := HMB.out.lt; simp; omega)
          have HM2 := Lib.hid hM2
          have hw2 : w1.heap.size < w2.heap.size := World.block_lt_of_cell? _ _ hg0
          clear hM2 hlt1 hb2 hb1
          gi_loopw [27] (fun i wr => ∃ (k : Nat), k ≤ ns.length ∧ i = .int .i64 k ∧ Aside0 ((List.range k).all (linkB l ns) = true) ∧ Below w2.heap.size w2 wr) (fun i _ => ns.length - (intOf i).toNat)
          case atStart => exact ⟨0, Nat.zero_le _, rfl, ⟨by simp⟩, Below.refl _ _⟩
          case round =>
            obtain ⟨k, hk, rfl, hall, hBr⟩ := hrel
            have hB3 := hB2.trans (hBr.mono hB2.size)
            have hgr0 := (hBr.cell (p := ⟨w1.heap.size, 0, none⟩) hw2).trans hg0
            have hgr1 := (hBr.cell (p := ⟨w1.heap.size, 1, none⟩) hw2).trans hg1
            by_cases hlt : k < ns.length
            · obtain ⟨ad, ea, hx⟩ := at_s (Kd.C_below HN.out hB3) k hlt
              subst ea
              have hmod : (k + 1) % ns.length < ns.length := Nat.mod_lt _ hpos
              obtain ⟨q, hq⟩ : ∃ q, (k + 1) % ns.length = q := ⟨_, rfl⟩
              rw [hq] at hmod
              obtain ⟨ad', ea, hy⟩ := at_s (Kd.C_below HN.out hB3) q hmod
              cases ea
              have hAt := AtRange.new (W := wr.drew) (nth ns k) HR.out hc HM.out hB3.drew (HM2.out.below hBr.drew HM2.out.lt)
              have HAT := Lib.hid hAt
              have hadd : IntKind.i64.wrap ((k : Int) + 1) = (k : Int) + 1 := Go.IntWalk.i64_in _ ⟨by omega, by omega⟩
              have hlb : linkB l ns k = memS (ups l (nth ns k)) (nth ns q) := by unfold linkB; rw [hq]
              have HLB := Lib.hid hlb
              have hrem : ((k : Int) + 1).tmod (ns.length : Int) = (q : Int) := by rw [← hq]; rw [Int.tmod_eq_emod_of_nonneg (by omega)]; push_cast; rfl
              have hq0 : (0 : Int) ≤ q := by omega
              have hq1 : (q : Int) < ns.length := by omega
              have hqn : ((q : Int)).toNat = q := by omega
              clear hAt hlb hg0 hg1 hB1 hB2
              gi_wp2_with fail
              gi_region_with_o (first
                | (gi_at_call 57; refine (callsIn_wide.2 (parents_calls _ _ _ _)).mono ?_; rintro e w3 ⟨rfl, hw3⟩; have hAt3 := HAT.out; rw [hw3] at hAt3; have hy3 : w3.cell? (ad.add q) = some (.string (nth ns q)) := (by rw [← hw3]; exact cell_alloc (cell_alloc hy _) _); have hb3 : Below wr.heap.size wr w3 := (by rw [← hw3]; exact ((Below.refl _ wr).drew.alloc (Nat.le_refl _) _).alloc (by simp) _); have HAT3 := Lib.hid hAt3; clear hAt3 hw3)
                | (gi_at_call 97; refine (callsIn_wide.2 (collect_calls HAT3.out (ups_len HUP.out _))).mono ?_; rintro e w4 ⟨v, rfl, hR4, hb4⟩; obtain ⟨A4, c4, rfl, hcap4, hC4⟩ := hR4.reads; have hy4 : w4.cell? (ad.add q) = some (.string (nth ns q)) := (hb4.cell (World.block_lt_of_cell? _ _ hy3)).trans hy3; have HC4 := Lib.hid hC4; have hb5 := hb3.trans (hb4.mono hb3.size); clear hC4 hy3)
                | (gi_at_call 79; refine (callsIn_wide.2 (contains_calls _ _ _ (nth ns q) _ HC4.out)).mono ?_; rintro e w5 ⟨rfl, rfl⟩))
              all_goals
                have hB5 := hB3.trans (hb5.mono hB3.size)
                have hBr5 := hBr.trans (hb5.mono hBr.size)
                cases he : memS (ups l (nth ns k)) (nth ns q) with
                | false =>
                  have HIO : Hid (checkRingOf l ns = 11) := by
                    show _ = _
                    rw [HIO1.out, if_neg]
                    intro h
                    have := List.all_eq_true.1 h k (by simpa using hlt)
                    rw [HLB.out, he] at this
                    cases this
                  have HE := Lib.hid he
                  clear he
                  gi_wp2_with fail
                  go_ret
                  exact ⟨by rw [HIO.out]; rfl, hB5⟩
                | true =>
                  have HE := Lib.hid he
                  clear he
                  gi_wp2_with fail
                  go_roundw
                  case rel => exact ⟨k + 1, by omega, by go_num, ⟨by rw [List.range_succ, List.all_append, hall.out]; simp [HLB.out, HE.out]⟩, hBr5⟩
                  case measure => simp [intOf]; omega
            · gi_wp2_with fail
              obtain rfl : k = ns.length := by omega
              have HIO : Hid (checkRingOf l ns = 0) := by show _ = _; rw [HIO1.out, if_pos hall.out]
              go_ret
              exact ⟨by rw [HIO.out]; rfl, hB3⟩
end Go.Proofs.Ytdljclokenoogaa.Hw
end
section
namespace Go.Proofs.Ytdljclokenoogaa.Hp
open Go.RowKit Go.Proofs.YtdljclokenoogaaW.PrintWords Go.Proofs.YtdljclokenoogaaW.PrintLast Go.Proofs.YtdljclokenoogaaW.PrintMore Go.Proofs.Ytdljclokenoogaa.Hw
def shortUps (l : List S61) : Bool := l.all (fun x => decide (x.f3.length ≤ 1100000000000))
theorem shortUps_at {l : List S61} (h : shortUps l = true) : ∀ x ∈ l, x.f3.length ≤ 1100000000000 := fun x hx => of_decide_eq_true (List.all_eq_true.1 h x hx)
def heir_Check.f (l0 : List S61) : Option (Int × ByteArray) := some (checkOf l0)
def heir_Ring.f (l0 : List S61) : Option (List ByteArray × Bool) := if l0.length ≤ 1000 ∧ shortUps l0 = true then some (ringOf l0, !(ringOf l0).isEmpty) else none
def heir_CheckRing.f (l0 : List S61) (l1 : List ByteArray) : Option Int := if shortUps l0 = true then some (checkRingOf l0 l1) else none
def heir_Above.f (l0 : List S61) (a1 : ByteArray) : Option (List ByteArray × Int) := some (aboveOf l0 a1)
def heir_Below.f (l0 : List S61) (a1 : ByteArray) : Option (List ByteArray × Int) := some (belowOf l0 a1)
def heir_Is.f (l0 : List S61) (a1 a2 : ByteArray) : Option (Bool × Int) := some (isOf l0 a1 a2)
def heir_Way.f (l0 : List S61) (a1 a2 : ByteArray) : Option (List ByteArray × Int) := some (wayOf l0 a1 a2)
def heir_CheckWay.f (l0 : List S61) (a1 a2 : ByteArray) (l3 : List ByteArray) : Option Int := some (checkWayOf l0 a1 a2 l3)
def heir_Ways.f (l0 : List S61) (a1 a2 : ByteArray) : Option (Int × Int) := some (((waysOf l0 a1 a2).1 : Int), (waysOf l0 a1 a2).2)
def heir_Order.f (l0 : List S61) : Option (List ByteArray × Int) := some (orderOf l0)
def heir_Levels.f (l0 : List S61) : Option (List (List ByteArray) × Int) := some (levelsOf l0)
def heir_Least.f (l0 : List S61) (a1 a2 : ByteArray) : Option (List ByteArray × Int) := some (Hw.leastOf l0 a1 a2)
def heir_Needless.f (l0 : List S61) : Option (List S73 × Int) := some (needlessOf l0)
def heir_Touched.f (l0 : List S61) (l1 : List ByteArray) : Option (List ByteArray × Int) := some (touchedOf l0 l1)
def cosignerlaw03_sanity.f : Option Bool := some true
theorem heir_Check.calls (A0 : Option Addr) (c0 : Nat) (l0 : List S61) (r1 : Int) (r2 : ByteArray) (w : World) (hr0 : Kd.C k61 w A0 l0.length l0) (hc0 : l0.length ≤ c0) (h : heir_Check.f l0 = some (r1, r2)) :
    Calls Try.prog 43 #[.slice A0 l0.length c0] w fun e w' => e = .returned (.tuple #[.int .i64 r1, .string r2]) ∧ Below w.heap.size w w' := by
  have e : checkOf l0 = (r1, r2) := Option.some.inj h
  have := check_calls A0 c0 l0 w hr0 hc0
  rw [e] at this; exact this
theorem heir_Is.calls (A0 : Option Addr) (c0 : Nat) (l0 : List S61) (a1 a2 : ByteArray) (r1 : Bool) (r2 : Int) (w : World) (hr0 : Kd.C k61 w A0 l0.length l0) (hc0 : l0.length ≤ c0) (h : heir_Is.f l0 a1 a2 = some (r1, r2)) :
    Calls Try.prog 40 #[.slice A0 l0.length c0, .string a1, .string a2] w fun e w' => e = .returned (.tuple #[.bool r1, .int .i64 r2]) ∧ Below w.heap.size w w' := by
  have e : isOf l0 a1 a2 = (r1, r2) := Option.some.inj h
  have := is_calls A0 c0 l0 a1 a2 w hr0 hc0
  rw [e] at this; exact this
theorem heir_Ways.calls (A0 : Option Addr) (c0 : Nat) (l0 : List S61) (a1 a2 : ByteArray) (r1 : Int) (r2 : Int) (w : World) (hr0 : Kd.C k61 w A0 l0.length l0) (hc0 : l0.length ≤ c0) (h : heir_Ways.f l0 a1 a2 = some (r1, r2)) :
    Calls Try.prog 32 #[.slice A0 l0.length c0, .string a1, .string a2] w fun e w' => e = .returned (.tuple #[.int .i64 r1, .int .i64 r2]) ∧ Below w.heap.size w w' := by
  have e : (((waysOf l0 a1 a2).1 : Int), (waysOf l0 a1 a2).2) = (r1, r2) := Option.some.inj h
  obtain ⟨rfl, rfl⟩ := Prod.mk.inj e
  exact ways_calls A0 c0 l0 a1 a2 w hr0 hc0
theorem heir_Ring.calls (A0 : Option Addr) (c0 : Nat) (l0 : List S61) (r1 : List ByteArray) (r2 : Bool) (w : World) (hr0 : Kd.C k61 w A0 l0.length l0) (hc0 : l0.length ≤ c0) (h : heir_Ring.f l0 = some (r1, r2)) :
    Calls Try.prog 45 #[.slice A0 l0.length c0] w fun e w' => ∃ v, e = .returned (.tuple #[v, .bool r2]) ∧ Kd.R Kd.string 9 w' w.heap.size (fun _ => True) v r1 ∧ Below w.heap.size w w' := by
  unfold heir_Ring.f at h
  split at h
  · rename_i hb
    obtain ⟨rfl, rfl⟩ := Prod.mk.inj (Option.some.inj h)
    exact (ring_calls A0 c0 l0 w hr0 hc0 hb.1 (shortUps_at hb.2)).mono (fun _ _ ⟨v, h1, h2, h3⟩ => ⟨v, h1, h2.1, h3⟩)
  · cases h
theorem heir_CheckRing.calls (A0 : Option Addr) (c0 : Nat) (l0 : List S61) (A1 : Option Addr) (c1 : Nat) (l1 : List ByteArray) (r : Int) (w : World) (hr0 : Kd.C k61 w A0 l0.length l0) (hc0 : l0.length ≤ c0) (hr1 : Kd.C Kd.string w A1 l1.length l1) (hc1 : l1.length ≤ c1) (h : heir_CheckRing.f l0 l1 = some r) :
    Calls Try.prog 47 #[.slice A0 l0.length c0, .slice A1 l1.length c1] w fun e w' => e = .returned (.int .i64 r) ∧ Below w.heap.size w w' := by
  unfold heir_CheckRing.f at h
  split at h
  · rename_i hb
    obtain rfl := Option.some.inj h
    exact checkRing_calls A0 A1 c0 c1 l0 l1 w hr0 hc0 (shortUps_at hb) hr1
  · cases h
theorem heir_CheckWay.calls (A0 : Option Addr) (c0 : Nat) (l0 : List S61) (a1 a2 : ByteArray) (A3 : Option Addr) (c3 : Nat) (l3 : List ByteArray) (r : Int) (w : World) (hr0 : Kd.C k61 w A0 l0.length l0) (hc0 : l0.length ≤ c0) (hr3 : Kd.C Kd.string w A3 l3.length l3) (hc3 : l3.length ≤ c3) (h : heir_CheckWay.f l0 a1 a2 l3 = some r) :
    Calls Try.prog 51 #[.slice A0 l0.length c0, .string a1, .string a2, .slice A3 l3.length c3] w fun e w' => e = .returned (.int .i64 r) ∧ Below w.heap.size w w' := by
  obtain rfl := Option.some.inj h
  exact checkWay_calls A0 A3 c0 c3 l0 a1 a2 l3 w hr0 hc0 hr3 hc3
theorem heir_Above.calls (A0 : Option Addr) (c0 : Nat) (l0 : List S61) (a1 : ByteArray) (r1 : List ByteArray) (r2 : Int) (w : World) (hr0 : Kd.C k61 w A0 l0.length l0) (hc0 : l0.length ≤ c0) (h : heir_Above.f l0 a1 = some (r1, r2)) :
    Calls Try.prog 34 #[.slice A0 l0.length c0, .string a1] w fun e w' => ∃ v, e = .returned (.tuple #[v, .int .i64 r2]) ∧ Kd.R Kd.string 9 w' w.heap.size (fun _ => True) v r1 ∧ Below w.heap.size w w' := by
  have e : aboveOf l0 a1 = (r1, r2) := Option.some.inj h
  have := aboveApi_calls A0 c0 l0 a1 w hr0 hc0
  rw [e] at this
  exact this.mono (fun _ _ ⟨v, h1, h2, h3⟩ => ⟨v, h1, h2.1, h3⟩)
theorem heir_Below.calls (A0 : Option Addr) (c0 : Nat) (l0 : List S61) (a1 : ByteArray) (r1 : List ByteArray) (r2 : Int) (w : World) (hr0 : Kd.C k61 w A0 l0.length l0) (hc0 : l0.length ≤ c0) (h : heir_Below.f l0 a1 = some (r1, r2)) :
    Calls Try.prog 38 #[.slice A0 l0.length c0, .string a1] w fun e w' => ∃ v, e = .returned (.tuple #[v, .int .i64 r2]) ∧ Kd.R Kd.string 9 w' w.heap.size (fun _ => True) v r1 ∧ Below w.heap.size w w' := by
  have e : belowOf l0 a1 = (r1, r2) := Option.some.inj h
  have := below_calls A0 c0 l0 a1 w hr0 hc0
  rw [e] at this
  exact this.mono (fun _ _ ⟨v, h1, h2, h3⟩ => ⟨v, h1, h2.1, h3⟩)
theorem heir_Way.calls (A0 : Option Addr) (c0 : Nat) (l0 : List S61) (a1 a2 : ByteArray) (r1 : List ByteArray) (r2 : Int) (w : World) (hr0 : Kd.C k61 w A0 l0.length l0) (hc0 : l0.length ≤ c0) (h : heir_Way.f l0 a1 a2 = some (r1, r2)) :
    Calls Try.prog 49 #[.slice A0 l0.length c0, .string a1, .string a2] w fun e w' => ∃ v, e = .returned (.tuple #[v, .int .i64 r2]) ∧ Kd.R Kd.string 9 w' w.heap.size (fun _ => True) v r1 ∧ Below w.heap.size w w' := by
  have e : wayOf l0 a1 a2 = (r1, r2) := Option.some.inj h
  have := way_calls A0 c0 l0 a1 a2 w hr0 hc0
  rw [e] at this
  exact this.mono (fun _ _ ⟨v, h1, h2, h3⟩ => ⟨v, h1, h2.1, h3⟩)
theorem heir_Order.calls (A0 : Option Addr) (c0 : Nat) (l0 : List S61) (r1 : List ByteArray) (r2 : Int) (w : World) (hr0 : Kd.C k61 w A0 l0.length l0) (hc0 : l0.length ≤ c0) (h : heir_Order.f l0 = some (r1, r2)) :
    Calls Try.prog 17 #[.slice A0 l0.length c0] w fun e w' => ∃ v, e = .returned (.tuple #[v, .int .i64 r2]) ∧ Kd.R Kd.string 9 w' w.heap.size (fun _ => True) v r1 ∧ Below w.heap.size w w' := by
  have e : orderOf l0 = (r1, r2) := Option.some.inj h
  have := order_calls A0 c0 l0 w hr0 hc0
  rw [e] at this
  exact this.mono (fun _ _ ⟨v, h1, h2, h3⟩ => ⟨v, h1, h2.1, h3⟩)
theorem heir_Levels.calls (A0 : Option Addr) (c0 : Nat) (l0 : List S61) (r1 : List (List ByteArray)) (r2 : Int) (w : World) (hr0 : Kd.C k61 w A0 l0.length l0) (hc0 : l0.length ≤ c0) (h : heir_Levels.f l0 = some (r1, r2)) :
    Calls Try.prog 19 #[.slice A0 l0.length c0] w fun e w' => ∃ v, e = .returned (.tuple #[v, .int .i64 r2]) ∧ Kd.R (Kd.slice 9 Kd.string) 25 w' w.heap.size (fun _ => True) v r1 ∧ Below w.heap.size w w' := by
  have e : levelsOf l0 = (r1, r2) := Option.some.inj h
  have := levels_calls A0 c0 l0 w hr0 hc0
  rw [e] at this
  exact this
theorem heir_Least.calls (A0 : Option Addr) (c0 : Nat) (l0 : List S61) (a1 a2 : ByteArray) (r1 : List ByteArray) (r2 : Int) (w : World) (hr0 : Kd.C k61 w A0 l0.length l0) (hc0 : l0.length ≤ c0) (h : heir_Least.f l0 a1 a2 = some (r1, r2)) :
    Calls Try.prog 21 #[.slice A0 l0.length c0, .string a1, .string a2] w fun e w' => ∃ v, e = .returned (.tuple #[v, .int .i64 r2]) ∧ Kd.R Kd.string 9 w' w.heap.size (fun _ => True) v r1 ∧ Below w.heap.size w w' := by
  have e : Hw.leastOf l0 a1 a2 = (r1, r2) := Option.some.inj h
  have := least_calls A0 c0 l0 a1 a2 w hr0 hc0
  rw [e] at this
  exact this.mono (fun _ _ ⟨v, h1, h2, h3⟩ => ⟨v, h1, h2.1, h3⟩)
theorem heir_Needless.calls (A0 : Option Addr) (c0 : Nat) (l0 : List S61) (r1 : List S73) (r2 : Int) (w : World) (hr0 : Kd.C k61 w A0 l0.length l0) (hc0 : l0.length ≤ c0) (h : heir_Needless.f l0 = some (r1, r2)) :
    Calls Try.prog 25 #[.slice A0 l0.length c0] w fun e w' => ∃ v, e = .returned (.tuple #[v, .int .i64 r2]) ∧ Kd.R k73 73 w' w.heap.size (fun _ => True) v r1 ∧ Below w.heap.size w w' := by
  have e : needlessOf l0 = (r1, r2) := Option.some.inj h
  have := needless_calls A0 c0 l0 w hr0 hc0
  rw [e] at this
  exact this.mono (fun _ _ ⟨v, h1, h2, h3⟩ => ⟨v, h1, h2.1, h3⟩)
theorem heir_Touched.calls (A0 : Option Addr) (c0 : Nat) (l0 : List S61) (A1 : Option Addr) (c1 : Nat) (l1 : List ByteArray) (r1 : List ByteArray) (r2 : Int) (w : World) (hr0 : Kd.C k61 w A0 l0.length l0) (hc0 : l0.length ≤ c0) (hr1 : Kd.C Kd.string w A1 l1.length l1) (hc1 : l1.length ≤ c1) (h : heir_Touched.f l0 l1 = some (r1, r2)) :
    Calls Try.prog 27 #[.slice A0 l0.length c0, .slice A1 l1.length c1] w fun e w' => ∃ v, e = .returned (.tuple #[v, .int .i64 r2]) ∧ Kd.R Kd.string 9 w' w.heap.size (fun _ => True) v r1 ∧ Below w.heap.size w w' := by
  have e : touchedOf l0 l1 = (r1, r2) := Option.some.inj h
  have := touched_calls A0 A1 c0 c1 l0 l1 w hr0 hc0 hr1
  rw [e] at this
  exact this.mono (fun _ _ ⟨v, h1, h2, h3⟩ => ⟨v, h1, h2.1, h3⟩)
theorem cosignerlaw03_sanity.calls (r : Bool) (w : World) (h : cosignerlaw03_sanity.f = some r) : Calls Try.prog 16 #[] w fun e w' => e = .returned (.bool r) ∧ Below w.heap.size w w' := by
  obtain rfl := Option.some.inj h
  exact sanity_calls w
end Go.Proofs.Ytdljclokenoogaa.Hp
end
section
namespace Go.Proofs.Ytdljclokenoogaa.Hp
open Go.RowKit Go.Proofs.YtdljclokenoogaaW.PrintWords Go.Proofs.YtdljclokenoogaaW.PrintLast Go.Proofs.YtdljclokenoogaaW.PrintMore
attribute [local go_sem] max2_int min2_int max_two min_two max_three min_three max_four min_four
set_option linter.unusedVariables false
set_option linter.unusedSimpArgs false
def cosignerlaw03_right.f (l0 : List (S61)) : Option (Bool) := (heir_Check.f l0).bind fun bt114 => (if bt114.1 = 0 then (some (decide ((l0.length : Int) > 0))) else (some false))
set_option maxHeartbeats 8000000 in
set_option maxRecDepth 100000 in
theorem cosignerlaw03_right.calls (A0 : Option Addr) (c0 : Nat) (l0 : List (S61)) (r : Bool) (w : World) (hr0 : Kd.C k61 w A0 l0.length l0) (hc0 : l0.length ≤ c0) (h : cosignerlaw03_right.f l0 = some r) :
    Calls Try.prog 30 #[.slice A0 l0.length c0] w fun e w' => e = .returned (.bool r) ∧ Below w.heap.size w w' := by
  have HR0 := Aside0.mk hr0
  have HC0 := Aside0.mk hc0
  clear hr0 hc0
  have HB := Aside0.mk (Below.refl w.heap.size w)
  have H : ((heir_Check.f l0).bind fun bt114 => (if bt114.1 = 0 then (some (decide ((l0.length : Int) > 0))) else (some false))) = some r := h
  clear h
  replace H := Option.bind_eq_some_iff.mp H
  obtain ⟨⟨t114, t115⟩, A20, H⟩ := H
  replace H : (if t114 = 0 then (some (decide ((l0.length : Int) > 0))) else (some false)) = some r := H
  have A2 := Aside0.mk A20
  clear A20
  by_cases c3 : t114 = 0
  · rw [if_pos c3] at H
    have c3b0 : (t114 == 0) = true := beq_iff_eq.mpr c3
    have c3b1 : (t114 != 0) = false := bne_eq_false_iff_eq.mpr c3
    clear c3
    obtain rfl := Option.some.inj H
    go_enter Try.func30, Try.ntmps30
    go_wp2_with (first | ((with_reducible refine gate_callee (f := 43) rfl ?_); refine goesL_ (some 7) rfl rfl Try.func43 (by kernel_rfl) rfl #[.slice A0 l0.length c0] rfl (by (try simp only [List.map_toArray, List.map_cons, List.map_nil]); first | done | rfl | (simp only [List.length_drop, List.length_take]; rfl)) ?_; (with_reducible refine (heir_Check.calls _ _ l0 t114 t115 _ ?side1 ?side2 A2.out).mono ?_); (case side1 => repeat (first | exact HR0.out | (with_reducible refine Kd.C_alloc ?_ _) | (with_reducible refine Kd.C_drewN ?_ _) | (with_reducible refine Kd.C_drew ?_))); (case side2 => exact HC0.out); rintro e w4 ⟨rfl, hb⟩; refine ⟨_, rfl, ?_⟩; have n0_ := Aside0.mk (below_step (by repeat (first | (with_reducible first | exact HB.out | apply below_alloc | apply pw_below_drewN | apply below_drew1) | exact HB.out)) hb); clear HB; have HB := n0_; clear n0_; (try clear hb); (try clear hb2); (try clear hk); (try clear hi)))
    go_ret
    exact ⟨by first | rfl | (simp [errW_none, errW_some] <;> rfl) | (simp [*, errW_none, errW_some] <;> rfl), by repeat (first | (with_reducible first | exact HB.out | apply below_alloc | apply pw_below_drewN | apply below_drew1) | exact HB.out)⟩
  · rw [if_neg c3] at H
    have c3b0 : (t114 == 0) = false := beq_eq_false_iff_ne.mpr c3
    have c3b1 : (t114 != 0) = true := bne_iff_ne.mpr c3
    obtain rfl := Option.some.inj H
    go_enter Try.func30, Try.ntmps30
    go_wp2_with (first | ((with_reducible refine gate_callee (f := 43) rfl ?_); refine goesL_ (some 7) rfl rfl Try.func43 (by kernel_rfl) rfl #[.slice A0 l0.length c0] rfl (by (try simp only [List.map_toArray, List.map_cons, List.map_nil]); first | done | rfl | (simp only [List.length_drop, List.length_take]; rfl)) ?_; (with_reducible refine (heir_Check.calls _ _ l0 t114 t115 _ ?side1 ?side2 A2.out).mono ?_); (case side1 => repeat (first | exact HR0.out | (with_reducible refine Kd.C_alloc ?_ _) | (with_reducible refine Kd.C_drewN ?_ _) | (with_reducible refine Kd.C_drew ?_))); (case side2 => exact HC0.out); rintro e w5 ⟨rfl, hb⟩; refine ⟨_, rfl, ?_⟩; have n0_ := Aside0.mk (below_step (by repeat (first | (with_reducible first | exact HB.out | apply below_alloc | apply pw_below_drewN | apply below_drew1) | exact HB.out)) hb); clear HB; have HB := n0_; clear n0_; (try clear hb); (try clear hb2); (try clear hk); (try clear hi)))
    go_ret
    exact ⟨by first | rfl | (simp [errW_none, errW_some] <;> rfl) | (simp [*, errW_none, errW_some] <;> rfl), by repeat (first | (with_reducible first | exact HB.out | apply below_alloc | apply pw_below_drewN | apply below_drew1) | exact HB.out)⟩
def cosignerlaw03_name.f (l0 : List (S61)) (a1 : Int) : Option (ByteArray) := if (l0.length : Int) = 0 then (none) else (if 0 ≤ (Int.tmod (wrap64 (a1)) (l0.length : Int)) then (if (Int.tmod (wrap64 (a1)) (l0.length : Int)) < (l0.length : Int) then (some ((rd_T61 l0 (Int.tmod (wrap64 (a1)) (l0.length : Int))).f0)) else (none)) else (none))
set_option maxHeartbeats 8000000 in
set_option maxRecDepth 100000 in
theorem cosignerlaw03_name.calls (A0 : Option Addr) (c0 : Nat) (l0 : List (S61)) (a1 : Int) (r : ByteArray) (w : World) (hr0 : Kd.C k61 w A0 l0.length l0) (hc0 : l0.length ≤ c0) (h : cosignerlaw03_name.f l0 a1 = some r) :
    Calls Try.prog 31 #[.slice A0 l0.length c0, .int .u8 a1] w fun e w' => e = .returned (.string r) ∧ Drawn0 w w' := by
  have HR0 := Aside0.mk hr0
  have HC0 := Aside0.mk hc0
  clear hr0 hc0
  have H : (if (l0.length : Int) = 0 then (none) else (if 0 ≤ (Int.tmod (wrap64 (a1)) (l0.length : Int)) then (if (Int.tmod (wrap64 (a1)) (l0.length : Int)) < (l0.length : Int) then (some ((rd_T61 l0 (Int.tmod (wrap64 (a1)) (l0.length : Int))).f0)) else (none)) else (none))) = some r := h
  clear h
  by_cases c3 : (l0.length : Int) = 0
  · rw [if_pos c3] at H
    exact absurd H (by simp)
  · rw [if_neg c3] at H
    have c3b0 : ((l0.length : Int) == 0) = false := beq_eq_false_iff_ne.mpr c3
    have c3b1 : ((l0.length : Int) != 0) = true := bne_iff_ne.mpr c3
    have c3b2 : ¬ (l0 = []) := fun h_ => c3 (by rw [h_]; rfl)
    obtain ⟨ji4, hji4⟩ : ∃ j_ : Int, (Int.tmod (wrap64 (a1)) (l0.length : Int)) = j_ := ⟨_, rfl⟩
    replace H : (if 0 ≤ (ji4) then (if (ji4) < (l0.length : Int) then (some ((rd_T61 l0 (ji4)).f0)) else (none)) else (none)) = some r := by first | (rw [hji4] at H; exact H) | (simp only [hji4] at H ⊢; exact H)
    by_cases c5 : 0 ≤ (ji4)
    · rw [if_pos c5] at H
      have c5b0 : decide (0 ≤ (ji4)) = true := decide_eq_true c5
      clear c5
      by_cases c6 : (ji4) < (l0.length : Int)
      · rw [if_pos c6] at H
        have c6b0 : decide ((ji4) < (l0.length : Int)) = true := decide_eq_true c6
        clear c6
        obtain rfl := Option.some.inj H
        have p116 : 0 ≤ ((ji4) : Int) := of_decide_eq_true (by first | (with_reducible assumption) | assumption)
        have q116 : (ji4) < (l0.length : Int) := of_decide_eq_true (by first | (with_reducible assumption) | assumption)
        obtain ⟨ad116, A116_2, c116_2, A116_3, c116_3, A116_4, c116_4, A116_5, c116_5, A116_6, c116_6, e116, hx116_0, hx116_1, hx116_2, hx116_3, hx116_4, hx116_5, hx116_6, hl116_2, hi116_2, hl116_3, hi116_3, hl116_4, hi116_4, hl116_5, hi116_5, hl116_6, hi116_6⟩ := at_T61 HR0.out (ji4) p116 q116
        cases e116
        have HR116_2 := Aside0.mk hi116_2
        have HC116_2 := Aside0.mk hl116_2
        clear hi116_2 hl116_2
        have HR116_3 := Aside0.mk hi116_3
        have HC116_3 := Aside0.mk hl116_3
        clear hi116_3 hl116_3
        have HR116_4 := Aside0.mk hi116_4
        have HC116_4 := Aside0.mk hl116_4
        clear hi116_4 hl116_4
        have HR116_5 := Aside0.mk hi116_5
        have HC116_5 := Aside0.mk hl116_5
        clear hi116_5 hl116_5
        have HR116_6 := Aside0.mk hi116_6
        have HC116_6 := Aside0.mk hl116_6
        clear hi116_6 hl116_6
        replace p116 := eq_true p116
        replace q116 := eq_true q116
        go_enter Try.func31, Try.ntmps31
        go_wp2
        go_ret
        exact ⟨by first | rfl | (simp; done) | (simp only [← hji4] <;> (first | rfl | simp)) | (simp [*]; done), by repeat (first | exact Drawn0.refl _ | apply Drawn0.step)⟩
      · rw [if_neg c6] at H
        exact absurd H (by simp)
    · rw [if_neg c5] at H
      exact absurd H (by simp)
def cosignerlaw03_is.f (l0 : List (S61)) (a1 : ByteArray) (a2 : ByteArray) : Option (Bool) := (heir_Is.f l0 a1 a2).bind fun bt117 => (if bt117.1 = true then (some (bt117.2 == 0)) else (some false))
set_option maxHeartbeats 8000000 in
set_option maxRecDepth 100000 in
theorem cosignerlaw03_is.calls (A0 : Option Addr) (c0 : Nat) (l0 : List (S61)) (a1 : ByteArray) (a2 : ByteArray) (r : Bool) (w : World) (hr0 : Kd.C k61 w A0 l0.length l0) (hc0 : l0.length ≤ c0) (h : cosignerlaw03_is.f l0 a1 a2 = some r) :
    Calls Try.prog 33 #[.slice A0 l0.length c0, .string a1, .string a2] w fun e w' => e = .returned (.bool r) ∧ Below w.heap.size w w' := by
  have HR0 := Aside0.mk hr0
  have HC0 := Aside0.mk hc0
  clear hr0 hc0
  have HB := Aside0.mk (Below.refl w.heap.size w)
  have H : ((heir_Is.f l0 a1 a2).bind fun bt117 => (if bt117.1 = true then (some (bt117.2 == 0)) else (some false))) = some r := h
  clear h
  replace H := Option.bind_eq_some_iff.mp H
  obtain ⟨⟨t117, t118⟩, A40, H⟩ := H
  replace H : (if t117 = true then (some (t118 == 0)) else (some false)) = some r := H
  have A4 := Aside0.mk A40
  clear A40
  by_cases c5 : t117 = true
  · subst c5
    have H1 : (some (t118 == 0)) = some r := by rw [if_pos rfl] at H; exact H
    clear H
    have H := H1
    clear H1
    obtain rfl := Option.some.inj H
    go_enter Try.func33, Try.ntmps33
    go_wp2_with (first | ((with_reducible refine gate_callee (f := 40) rfl ?_); refine goesL_ (some 13) rfl rfl Try.func40 (by kernel_rfl) rfl #[.slice A0 l0.length c0, .string a1, .string a2] rfl (by (try simp only [List.map_toArray, List.map_cons, List.map_nil]); first | done | rfl | (simp only [List.length_drop, List.length_take]; rfl)) ?_; (with_reducible refine (heir_Is.calls _ _ l0 a1 a2 true t118 _ ?side1 ?side2 A4.out).mono ?_); (case side1 => repeat (first | exact HR0.out | (with_reducible refine Kd.C_alloc ?_ _) | (with_reducible refine Kd.C_drewN ?_ _) | (with_reducible refine Kd.C_drew ?_))); (case side2 => exact HC0.out); rintro e w6 ⟨rfl, hb⟩; refine ⟨_, rfl, ?_⟩; have n0_ := Aside0.mk (below_step (by repeat (first | (with_reducible first | exact HB.out | apply below_alloc | apply pw_below_drewN | apply below_drew1) | exact HB.out)) hb); clear HB; have HB := n0_; clear n0_; (try clear hb); (try clear hb2); (try clear hk); (try clear hi)))
    go_ret
    exact ⟨by first | rfl | (simp [errW_none, errW_some] <;> rfl) | (simp [*, errW_none, errW_some] <;> rfl), by repeat (first | (with_reducible first | exact HB.out | apply below_alloc | apply pw_below_drewN | apply below_drew1) | exact HB.out)⟩
  · replace c5 := Bool.eq_false_iff.mpr c5
    subst c5
    have H1 : (some false) = some r := by rw [if_neg (show ¬ (false = true) by decide)] at H; exact H
    clear H
    have H := H1
    clear H1
    obtain rfl := Option.some.inj H
    go_enter Try.func33, Try.ntmps33
    go_wp2_with (first | ((with_reducible refine gate_callee (f := 40) rfl ?_); refine goesL_ (some 13) rfl rfl Try.func40 (by kernel_rfl) rfl #[.slice A0 l0.length c0, .string a1, .string a2] rfl (by (try simp only [List.map_toArray, List.map_cons, List.map_nil]); first | done | rfl | (simp only [List.length_drop, List.length_take]; rfl)) ?_; (with_reducible refine (heir_Is.calls _ _ l0 a1 a2 false t118 _ ?side1 ?side2 A4.out).mono ?_); (case side1 => repeat (first | exact HR0.out | (with_reducible refine Kd.C_alloc ?_ _) | (with_reducible refine Kd.C_drewN ?_ _) | (with_reducible refine Kd.C_drew ?_))); (case side2 => exact HC0.out); rintro e w7 ⟨rfl, hb⟩; refine ⟨_, rfl, ?_⟩; have n0_ := Aside0.mk (below_step (by repeat (first | (with_reducible first | exact HB.out | apply below_alloc | apply pw_below_drewN | apply below_drew1) | exact HB.out)) hb); clear HB; have HB := n0_; clear n0_; (try clear hb); (try clear hb2); (try clear hk); (try clear hi)))
    go_ret
    exact ⟨by first | rfl | (simp [errW_none, errW_some] <;> rfl) | (simp [*, errW_none, errW_some] <;> rfl), by repeat (first | (with_reducible first | exact HB.out | apply below_alloc | apply pw_below_drewN | apply below_drew1) | exact HB.out)⟩
def cosignerlaw03_at.l0 : Nat → List ByteArray → ByteArray → Int → Option (Int)
  | 0, _, _, _ => none
  | k + 1, x0, x1, x5 => if x5 < (x0.length : Int) then (if 0 ≤ x5 then (if (rdOf ByteArray.empty x0 x5).toList = x1.toList then (some x5) else (cosignerlaw03_at.l0 k x0 x1 (wrap64 (x5 + 1)))) else (none)) else (some (-1))
def cosignerlaw03_at.f (k : Nat) (l0 : List ByteArray) (a1 : ByteArray) : Option (Int) := cosignerlaw03_at.l0 k l0 a1 0
theorem cosignerlaw03_at.mono_l : ∀ k, (∀ y0 y1 y2, LeO (cosignerlaw03_at.l0 k y0 y1 y2) (cosignerlaw03_at.l0 (k + 1) y0 y1 y2))
  | 0 => fun _ _ _ r h => by simp [cosignerlaw03_at.l0] at h
  | k + 1 => by
    have ih0 := cosignerlaw03_at.mono_l k
    · intro y0 y1 y2
      unfold cosignerlaw03_at.l0
      repeat' first
      | (with_reducible exact ih0 _ _ _)
      | (with_reducible exact LeO.refl _)
      | (with_reducible exact LeO.none _)
      | (with_reducible refine LeO.ite ?_ ?_)
      | (with_reducible refine LeO.bind ?_ (fun _ => ?_))
      | exact ih0 _ _ _
      | exact LeO.none _
      | refine LeO.ite ?_ ?_
      | refine LeO.bind ?_ (fun _ => ?_)
theorem cosignerlaw03_at.mono : ∀ a0 a1 k, LeO (cosignerlaw03_at.f k a0 a1) (cosignerlaw03_at.f (k + 1) a0 a1) := by
  intro a0 a1 k
  have ih0 := cosignerlaw03_at.mono_l k
  unfold cosignerlaw03_at.f
  repeat' first
      | (with_reducible exact ih0 _ _ _)
      | (with_reducible exact LeO.refl _)
      | (with_reducible exact LeO.none _)
      | (with_reducible refine LeO.ite ?_ ?_)
      | (with_reducible refine LeO.bind ?_ (fun _ => ?_))
      | exact ih0 _ _ _
      | exact LeO.none _
      | refine LeO.ite ?_ ?_
      | refine LeO.bind ?_ (fun _ => ?_)
set_option maxHeartbeats 8000000 in
set_option maxRecDepth 100000 in
theorem cosignerlaw03_at.calls (k : Nat) (A0 : Option Addr) (c0 : Nat) (l0 : List ByteArray) (a1 : ByteArray) (r : Int) (w : World) (hr0 : Kd.C Kd.string w A0 l0.length l0) (hc0 : l0.length ≤ c0) (h : cosignerlaw03_at.f k l0 a1 = some r) :
    Calls Try.prog 35 #[.slice A0 l0.length c0, .string a1] w fun e w' => e = .returned (.int .i64 r) ∧ Drawn0 w w' := by
  have HR0 := Aside0.mk hr0
  have HC0 := Aside0.mk hc0
  clear hr0 hc0
  have H : (cosignerlaw03_at.l0 k l0 a1 0) = some r := h
  clear h
  have H' := Aside0.mk H
  clear H
  go_enter Try.func35, Try.ntmps35
  go_wp2
  go_loopg [5] k (fun kq v5 w' => ∃ (x5_1 : Int), v5 = .int .i64 x5_1 ∧ Aside0 (cosignerlaw03_at.l0 kq l0 a1 x5_1 = some r) ∧ Aside0 (kq ≤ k) ∧ Drawn0 w w')
  case atStart => exact ⟨(0), (by first | rfl | (simp; done) | (simp [*]; done)), H', ⟨Nat.le_refl _⟩, by repeat (first | exact Drawn0.refl _ | apply Drawn0.step)⟩
  case round =>
    clear H'
    try clear p2
    obtain ⟨x5_1, rfl, HA, HK1, ⟨m1, rfl⟩⟩ := hrel
    cases gk with
    | zero => exact absurd HA.out (by simp [cosignerlaw03_at.l0])
    | succ k1 =>
      have H := HA.out
      clear HA
      simp only [cosignerlaw03_at.l0] at H
      by_cases c3 : x5_1 < (l0.length : Int)
      · rw [if_pos c3] at H
        have c3b0 : decide (x5_1 < (l0.length : Int)) = true := decide_eq_true c3
        clear c3
        by_cases c4 : 0 ≤ x5_1
        · rw [if_pos c4] at H
          have c4b0 : decide (0 ≤ x5_1) = true := decide_eq_true c4
          clear c4
          by_cases c5 : (rdOf ByteArray.empty l0 x5_1).toList = a1.toList
          · rw [if_pos c5] at H
            have c5b0 : ((rdOf ByteArray.empty l0 x5_1).toList == a1.toList) = true := beq_iff_eq.mpr c5
            have c5b1 : ((rdOf ByteArray.empty l0 x5_1).toList != a1.toList) = false := bne_eq_false_iff_eq.mpr c5
            clear c5
            obtain rfl := Option.some.inj H
            have p119 : 0 ≤ (x5_1 : Int) := of_decide_eq_true (by first | (with_reducible assumption) | assumption)
            have q119 : x5_1 < (l0.length : Int) := of_decide_eq_true (by first | (with_reducible assumption) | assumption)
            obtain ⟨ad119, e119, hx119_0⟩ := Kd.at_string HR0.out x5_1 p119 q119
            cases e119
            replace p119 := eq_true p119
            replace q119 := eq_true q119
            go_wp2
            go_ret
            exact ⟨by first | rfl | (simp; done) | (simp [*]; done), by repeat (first | exact Drawn0.refl _ | apply Drawn0.step)⟩
          · rw [if_neg c5] at H
            have c5b0 : ((rdOf ByteArray.empty l0 x5_1).toList == a1.toList) = false := beq_eq_false_iff_ne.mpr c5
            have c5b1 : ((rdOf ByteArray.empty l0 x5_1).toList != a1.toList) = true := bne_iff_ne.mpr c5
            have H' := Aside0.mk H
            clear H
            have p119 : 0 ≤ (x5_1 : Int) := of_decide_eq_true (by first | (with_reducible assumption) | assumption)
            have q119 : x5_1 < (l0.length : Int) := of_decide_eq_true (by first | (with_reducible assumption) | assumption)
            obtain ⟨ad119, e119, hx119_0⟩ := Kd.at_string HR0.out x5_1 p119 q119
            cases e119
            replace p119 := eq_true p119
            replace q119 := eq_true q119
            go_wp2
            go_roundg k1
            case measure => have := HK1.out; omega
            case rel => exact ⟨(wrap64 (x5_1 + 1)), (by first | rfl | (simp; done) | (simp [*]; done)), H', ⟨by have := HK1.out; omega⟩, by repeat (first | exact Drawn0.refl _ | apply Drawn0.step)⟩
        · rw [if_neg c4] at H
          exact absurd H (by simp)
      · rw [if_neg c3] at H
        have c3b0 : decide (x5_1 < (l0.length : Int)) = false := decide_eq_false c3
        clear c3
        obtain rfl := Option.some.inj H
        go_wp2
        go_ret
        exact ⟨by first | rfl | (simp; done) | (simp [*]; done), by repeat (first | exact Drawn0.refl _ | apply Drawn0.step)⟩
def cosignerlaw03_HeirIsOrder.j0 : Nat → List (S61) → ByteArray → ByteArray → List ByteArray → Bool → Option (Bool)
  | 0, _, _, _, _, _ => none
  | k + 1, x0, x9, x10, x12, x77 => if x77 = true then (some false) else ((cosignerlaw03_sanity.f).bind fun t139 => (if t139 = true then ((cosignerlaw03_at.f k x12 x10).bind fun t140 => ((cosignerlaw03_is.f x0 x10 x9).bind fun t141 => (some ((decide (t140 ≥ 0)) == t141)))) else (some false)))
def cosignerlaw03_HeirIsOrder.f (k : Nat) (l0 : List (S61)) (a1 : Int) (a2 : Int) (a3 : Int) : Option (Bool) := (cosignerlaw03_right.f l0).bind fun t120 => (if t120 = true then ((cosignerlaw03_name.f l0 a1).bind fun t122 => ((cosignerlaw03_name.f l0 a2).bind fun t123 => ((cosignerlaw03_name.f l0 a3).bind fun t124 => ((heir_Below.f l0 t122).bind fun bt125 => (if bt125.2 = 0 then ((cosignerlaw03_is.f l0 t122 t122).bind fun t129 => (if t129 = true then ((cosignerlaw03_is.f l0 t122 t123).bind fun t130 => (if t130 = true then ((cosignerlaw03_is.f l0 t123 t124).bind fun t131 => (if t131 = true then ((cosignerlaw03_is.f l0 t122 t124).bind fun t132 => (if t132 = true then (if t122.toList = t123.toList then (cosignerlaw03_HeirIsOrder.j0 k l0 t122 t123 bt125.1 false) else ((cosignerlaw03_is.f l0 t122 t123).bind fun t133 => (if t133 = true then ((cosignerlaw03_is.f l0 t123 t122).bind fun t134 => (cosignerlaw03_HeirIsOrder.j0 k l0 t122 t123 bt125.1 t134)) else (cosignerlaw03_HeirIsOrder.j0 k l0 t122 t123 bt125.1 false)))) else (cosignerlaw03_HeirIsOrder.j0 k l0 t122 t123 bt125.1 true))) else (if t122.toList = t123.toList then (cosignerlaw03_HeirIsOrder.j0 k l0 t122 t123 bt125.1 false) else ((cosignerlaw03_is.f l0 t122 t123).bind fun t135 => (if t135 = true then ((cosignerlaw03_is.f l0 t123 t122).bind fun t136 => (cosignerlaw03_HeirIsOrder.j0 k l0 t122 t123 bt125.1 t136)) else (cosignerlaw03_HeirIsOrder.j0 k l0 t122 t123 bt125.1 false)))))) else (if t122.toList = t123.toList then (cosignerlaw03_HeirIsOrder.j0 k l0 t122 t123 bt125.1 false) else ((cosignerlaw03_is.f l0 t122 t123).bind fun t137 => (if t137 = true then ((cosignerlaw03_is.f l0 t123 t122).bind fun t138 => (cosignerlaw03_HeirIsOrder.j0 k l0 t122 t123 bt125.1 t138)) else (cosignerlaw03_HeirIsOrder.j0 k l0 t122 t123 bt125.1 false)))))) else (cosignerlaw03_HeirIsOrder.j0 k l0 t122 t123 bt125.1 true))) else (cosignerlaw03_HeirIsOrder.j0 k l0 t122 t123 bt125.1 true)))))) else ((cosignerlaw03_sanity.f).bind fun t121 => (some t121)))
theorem cosignerlaw03_HeirIsOrder.mono_l : ∀ k, (∀ y0 y1 y2 y3 y4, LeO (cosignerlaw03_HeirIsOrder.j0 k y0 y1 y2 y3 y4) (cosignerlaw03_HeirIsOrder.j0 (k + 1) y0 y1 y2 y3 y4))
  | 0 => fun _ _ _ _ _ r h => by simp [cosignerlaw03_HeirIsOrder.j0] at h
  | k + 1 => by
    have ih0 := cosignerlaw03_HeirIsOrder.mono_l k
    · intro y0 y1 y2 y3 y4
      unfold cosignerlaw03_HeirIsOrder.j0
      repeat' first
      | (with_reducible exact ih0 _ _ _ _ _)
      | (with_reducible exact cosignerlaw03_at.mono _ _ _)
      | (with_reducible exact LeO.refl _)
      | (with_reducible exact LeO.none _)
      | (with_reducible refine LeO.ite ?_ ?_)
      | (with_reducible refine LeO.bind ?_ (fun _ => ?_))
      | exact ih0 _ _ _ _ _
      | exact cosignerlaw03_at.mono _ _ _
      | exact LeO.none _
      | refine LeO.ite ?_ ?_
      | refine LeO.bind ?_ (fun _ => ?_)
theorem cosignerlaw03_HeirIsOrder.mono : ∀ a0 a1 a2 a3 k, LeO (cosignerlaw03_HeirIsOrder.f k a0 a1 a2 a3) (cosignerlaw03_HeirIsOrder.f (k + 1) a0 a1 a2 a3) := by
  intro a0 a1 a2 a3 k
  have ih0 := cosignerlaw03_HeirIsOrder.mono_l k
  unfold cosignerlaw03_HeirIsOrder.f
  repeat' first
      | (with_reducible exact ih0 _ _ _ _ _)
      | (with_reducible exact cosignerlaw03_at.mono _ _ _)
      | (with_reducible exact LeO.refl _)
      | (with_reducible exact LeO.none _)
      | (with_reducible refine LeO.ite ?_ ?_)
      | (with_reducible refine LeO.bind ?_ (fun _ => ?_))
      | exact ih0 _ _ _ _ _
      | exact cosignerlaw03_at.mono _ _ _
      | exact LeO.none _
      | refine LeO.ite ?_ ?_
      | refine LeO.bind ?_ (fun _ => ?_)
set_option maxHeartbeats 8000000 in
set_option maxRecDepth 100000 in
theorem cosignerlaw03_HeirIsOrder.calls (k : Nat) (A0 : Option Addr) (c0 : Nat) (l0 : List (S61)) (a1 : Int) (a2 : Int) (a3 : Int) (r : Bool) (w : World) (hr0 : Kd.C k61 w A0 l0.length l0) (hc0 : l0.length ≤ c0) (h : cosignerlaw03_HeirIsOrder.f k l0 a1 a2 a3 = some r) :
    Calls Try.prog 11 #[.slice A0 l0.length c0, .int .u8 a1, .int .u8 a2, .int .u8 a3] w fun e w' => e = .returned (.bool r) ∧ Below w.heap.size w w' := by
  have HR0 := Aside0.mk hr0
  have HC0 := Aside0.mk hc0
  clear hr0 hc0
  have HB := Aside0.mk (Below.refl w.heap.size w)
  have H : ((cosignerlaw03_right.f l0).bind fun t120 => (if t120 = true then ((cosignerlaw03_name.f l0 a1).bind fun t122 => ((cosignerlaw03_name.f l0 a2).bind fun t123 => ((cosignerlaw03_name.f l0 a3).bind fun t124 => ((heir_Below.f l0 t122).bind fun bt125 => (if bt125.2 = 0 then ((cosignerlaw03_is.f l0 t122 t122).bind fun t129 => (if t129 = true then ((cosignerlaw03_is.f l0 t122 t123).bind fun t130 => (if t130 = true then ((cosignerlaw03_is.f l0 t123 t124).bind fun t131 => (if t131 = true then ((cosignerlaw03_is.f l0 t122 t124).bind fun t132 => (if t132 = true then (if t122.toList = t123.toList then (cosignerlaw03_HeirIsOrder.j0 k l0 t122 t123 bt125.1 false) else ((cosignerlaw03_is.f l0 t122 t123).bind fun t133 => (if t133 = true then ((cosignerlaw03_is.f l0 t123 t122).bind fun t134 => (cosignerlaw03_HeirIsOrder.j0 k l0 t122 t123 bt125.1 t134)) else (cosignerlaw03_HeirIsOrder.j0 k l0 t122 t123 bt125.1 false)))) else (cosignerlaw03_HeirIsOrder.j0 k l0 t122 t123 bt125.1 true))) else (if t122.toList = t123.toList then (cosignerlaw03_HeirIsOrder.j0 k l0 t122 t123 bt125.1 false) else ((cosignerlaw03_is.f l0 t122 t123).bind fun t135 => (if t135 = true then ((cosignerlaw03_is.f l0 t123 t122).bind fun t136 => (cosignerlaw03_HeirIsOrder.j0 k l0 t122 t123 bt125.1 t136)) else (cosignerlaw03_HeirIsOrder.j0 k l0 t122 t123 bt125.1 false)))))) else (if t122.toList = t123.toList then (cosignerlaw03_HeirIsOrder.j0 k l0 t122 t123 bt125.1 false) else ((cosignerlaw03_is.f l0 t122 t123).bind fun t137 => (if t137 = true then ((cosignerlaw03_is.f l0 t123 t122).bind fun t138 => (cosignerlaw03_HeirIsOrder.j0 k l0 t122 t123 bt125.1 t138)) else (cosignerlaw03_HeirIsOrder.j0 k l0 t122 t123 bt125.1 false)))))) else (cosignerlaw03_HeirIsOrder.j0 k l0 t122 t123 bt125.1 true))) else (cosignerlaw03_HeirIsOrder.j0 k l0 t122 t123 bt125.1 true)))))) else ((cosignerlaw03_sanity.f).bind fun t121 => (some t121)))) = some r := h
  clear h
  replace H := Option.bind_eq_some_iff.mp H
  obtain ⟨t120, A50, H⟩ := H
  replace H : (if t120 = true then ((cosignerlaw03_name.f l0 a1).bind fun t122 => ((cosignerlaw03_name.f l0 a2).bind fun t123 => ((cosignerlaw03_name.f l0 a3).bind fun t124 => ((heir_Below.f l0 t122).bind fun bt125 => (if bt125.2 = 0 then ((cosignerlaw03_is.f l0 t122 t122).bind fun t129 => (if t129 = true then ((cosignerlaw03_is.f l0 t122 t123).bind fun t130 => (if t130 = true then ((cosignerlaw03_is.f l0 t123 t124).bind fun t131 => (if t131 = true then ((cosignerlaw03_is.f l0 t122 t124).bind fun t132 => (if t132 = true then (if t122.toList = t123.toList then (cosignerlaw03_HeirIsOrder.j0 k l0 t122 t123 bt125.1 false) else ((cosignerlaw03_is.f l0 t122 t123).bind fun t133 => (if t133 = true then ((cosignerlaw03_is.f l0 t123 t122).bind fun t134 => (cosignerlaw03_HeirIsOrder.j0 k l0 t122 t123 bt125.1 t134)) else (cosignerlaw03_HeirIsOrder.j0 k l0 t122 t123 bt125.1 false)))) else (cosignerlaw03_HeirIsOrder.j0 k l0 t122 t123 bt125.1 true))) else (if t122.toList = t123.toList then (cosignerlaw03_HeirIsOrder.j0 k l0 t122 t123 bt125.1 false) else ((cosignerlaw03_is.f l0 t122 t123).bind fun t135 => (if t135 = true then ((cosignerlaw03_is.f l0 t123 t122).bind fun t136 => (cosignerlaw03_HeirIsOrder.j0 k l0 t122 t123 bt125.1 t136)) else (cosignerlaw03_HeirIsOrder.j0 k l0 t122 t123 bt125.1 false)))))) else (if t122.toList = t123.toList then (cosignerlaw03_HeirIsOrder.j0 k l0 t122 t123 bt125.1 false) else ((cosignerlaw03_is.f l0 t122 t123).bind fun t137 => (if t137 = true then ((cosignerlaw03_is.f l0 t123 t122).bind fun t138 => (cosignerlaw03_HeirIsOrder.j0 k l0 t122 t123 bt125.1 t138)) else (cosignerlaw03_HeirIsOrder.j0 k l0 t122 t123 bt125.1 false)))))) else (cosignerlaw03_HeirIsOrder.j0 k l0 t122 t123 bt125.1 true))) else (cosignerlaw03_HeirIsOrder.j0 k l0 t122 t123 bt125.1 true)))))) else ((cosignerlaw03_sanity.f).bind fun t121 => (some t121))) = some r := H
  have A5 := Aside0.mk A50
  clear A50
  by_cases c6 : t120 = true
  · subst c6
    have H1 : ((cosignerlaw03_name.f l0 a1).bind fun t122 => ((cosignerlaw03_name.f l0 a2).bind fun t123 => ((cosignerlaw03_name.f l0 a3).bind fun t124 => ((heir_Below.f l0 t122).bind fun bt125 => (if bt125.2 = 0 then ((cosignerlaw03_is.f l0 t122 t122).bind fun t129 => (if t129 = true then ((cosignerlaw03_is.f l0 t122 t123).bind fun t130 => (if t130 = true then ((cosignerlaw03_is.f l0 t123 t124).bind fun t131 => (if t131 = true then ((cosignerlaw03_is.f l0 t122 t124).bind fun t132 => (if t132 = true then (if t122.toList = t123.toList then (cosignerlaw03_HeirIsOrder.j0 k l0 t122 t123 bt125.1 false) else ((cosignerlaw03_is.f l0 t122 t123).bind fun t133 => (if t133 = true then ((cosignerlaw03_is.f l0 t123 t122).bind fun t134 => (cosignerlaw03_HeirIsOrder.j0 k l0 t122 t123 bt125.1 t134)) else (cosignerlaw03_HeirIsOrder.j0 k l0 t122 t123 bt125.1 false)))) else (cosignerlaw03_HeirIsOrder.j0 k l0 t122 t123 bt125.1 true))) else (if t122.toList = t123.toList then (cosignerlaw03_HeirIsOrder.j0 k l0 t122 t123 bt125.1 false) else ((cosignerlaw03_is.f l0 t122 t123).bind fun t135 => (if t135 = true then ((cosignerlaw03_is.f l0 t123 t122).bind fun t136 => (cosignerlaw03_HeirIsOrder.j0 k l0 t122 t123 bt125.1 t136)) else (cosignerlaw03_HeirIsOrder.j0 k l0 t122 t123 bt125.1 false)))))) else (if t122.toList = t123.toList then (cosignerlaw03_HeirIsOrder.j0 k l0 t122 t123 bt125.1 false) else ((cosignerlaw03_is.f l0 t122 t123).bind fun t137 => (if t137 = true then ((cosignerlaw03_is.f l0 t123 t122).bind fun t138 => (cosignerlaw03_HeirIsOrder.j0 k l0 t122 t123 bt125.1 t138)) else (cosignerlaw03_HeirIsOrder.j0 k l0 t122 t123 bt125.1 false)))))) else (cosignerlaw03_HeirIsOrder.j0 k l0 t122 t123 bt125.1 true))) else (cosignerlaw03_HeirIsOrder.j0 k l0 t122 t123 bt125.1 true)))))) = some r := by rw [if_pos rfl] at H; exact H
    clear H
    have H := H1
    clear H1
    replace H := Option.bind_eq_some_iff.mp H
    obtain ⟨t122, A70, H⟩ := H
    replace H : ((cosignerlaw03_name.f l0 a2).bind fun t123 => ((cosignerlaw03_name.f l0 a3).bind fun t124 => ((heir_Below.f l0 t122).bind fun bt125 => (if bt125.2 = 0 then ((cosignerlaw03_is.f l0 t122 t122).bind fun t129 => (if t129 = true then ((cosignerlaw03_is.f l0 t122 t123).bind fun t130 => (if t130 = true then ((cosignerlaw03_is.f l0 t123 t124).bind fun t131 => (if t131 = true then ((cosignerlaw03_is.f l0 t122 t124).bind fun t132 => (if t132 = true then (if t122.toList = t123.toList then (cosignerlaw03_HeirIsOrder.j0 k l0 t122 t123 bt125.1 false) else ((cosignerlaw03_is.f l0 t122 t123).bind fun t133 => (if t133 = true then ((cosignerlaw03_is.f l0 t123 t122).bind fun t134 => (cosignerlaw03_HeirIsOrder.j0 k l0 t122 t123 bt125.1 t134)) else (cosignerlaw03_HeirIsOrder.j0 k l0 t122 t123 bt125.1 false)))) else (cosignerlaw03_HeirIsOrder.j0 k l0 t122 t123 bt125.1 true))) else (if t122.toList = t123.toList then (cosignerlaw03_HeirIsOrder.j0 k l0 t122 t123 bt125.1 false) else ((cosignerlaw03_is.f l0 t122 t123).bind fun t135 => (if t135 = true then ((cosignerlaw03_is.f l0 t123 t122).bind fun t136 => (cosignerlaw03_HeirIsOrder.j0 k l0 t122 t123 bt125.1 t136)) else (cosignerlaw03_HeirIsOrder.j0 k l0 t122 t123 bt125.1 false)))))) else (if t122.toList = t123.toList then (cosignerlaw03_HeirIsOrder.j0 k l0 t122 t123 bt125.1 false) else ((cosignerlaw03_is.f l0 t122 t123).bind fun t137 => (if t137 = true then ((cosignerlaw03_is.f l0 t123 t122).bind fun t138 => (cosignerlaw03_HeirIsOrder.j0 k l0 t122 t123 bt125.1 t138)) else (cosignerlaw03_HeirIsOrder.j0 k l0 t122 t123 bt125.1 false)))))) else (cosignerlaw03_HeirIsOrder.j0 k l0 t122 t123 bt125.1 true))) else (cosignerlaw03_HeirIsOrder.j0 k l0 t122 t123 bt125.1 true))))) = some r := H
    have A7 := Aside0.mk A70
    clear A70
    replace H := Option.bind_eq_some_iff.mp H
    obtain ⟨t123, A80, H⟩ := H
    replace H : ((cosignerlaw03_name.f l0 a3).bind fun t124 => ((heir_Below.f l0 t122).bind fun bt125 => (if bt125.2 = 0 then ((cosignerlaw03_is.f l0 t122 t122).bind fun t129 => (if t129 = true then ((cosignerlaw03_is.f l0 t122 t123).bind fun t130 => (if t130 = true then ((cosignerlaw03_is.f l0 t123 t124).bind fun t131 => (if t131 = true then ((cosignerlaw03_is.f l0 t122 t124).bind fun t132 => (if t132 = true then (if t122.toList = t123.toList then (cosignerlaw03_HeirIsOrder.j0 k l0 t122 t123 bt125.1 false) else ((cosignerlaw03_is.f l0 t122 t123).bind fun t133 => (if t133 = true then ((cosignerlaw03_is.f l0 t123 t122).bind fun t134 => (cosignerlaw03_HeirIsOrder.j0 k l0 t122 t123 bt125.1 t134)) else (cosignerlaw03_HeirIsOrder.j0 k l0 t122 t123 bt125.1 false)))) else (cosignerlaw03_HeirIsOrder.j0 k l0 t122 t123 bt125.1 true))) else (if t122.toList = t123.toList then (cosignerlaw03_HeirIsOrder.j0 k l0 t122 t123 bt125.1 false) else ((cosignerlaw03_is.f l0 t122 t123).bind fun t135 => (if t135 = true then ((cosignerlaw03_is.f l0 t123 t122).bind fun t136 => (cosignerlaw03_HeirIsOrder.j0 k l0 t122 t123 bt125.1 t136)) else (cosignerlaw03_HeirIsOrder.j0 k l0 t122 t123 bt125.1 false)))))) else (if t122.toList = t123.toList then (cosignerlaw03_HeirIsOrder.j0 k l0 t122 t123 bt125.1 false) else ((cosignerlaw03_is.f l0 t122 t123).bind fun t137 => (if t137 = true then ((cosignerlaw03_is.f l0 t123 t122).bind fun t138 => (cosignerlaw03_HeirIsOrder.j0 k l0 t122 t123 bt125.1 t138)) else (cosignerlaw03_HeirIsOrder.j0 k l0 t122 t123 bt125.1 false)))))) else (cosignerlaw03_HeirIsOrder.j0 k l0 t122 t123 bt125.1 true))) else (cosignerlaw03_HeirIsOrder.j0 k l0 t122 t123 bt125.1 true)))) = some r := H
    have A8 := Aside0.mk A80
    clear A80
    replace H := Option.bind_eq_some_iff.mp H
    obtain ⟨t124, A90, H⟩ := H
    replace H : ((heir_Below.f l0 t122).bind fun bt125 => (if bt125.2 = 0 then ((cosignerlaw03_is.f l0 t122 t122).bind fun t129 => (if t129 = true then ((cosignerlaw03_is.f l0 t122 t123).bind fun t130 => (if t130 = true then ((cosignerlaw03_is.f l0 t123 t124).bind fun t131 => (if t131 = true then ((cosignerlaw03_is.f l0 t122 t124).bind fun t132 => (if t132 = true then (if t122.toList = t123.toList then (cosignerlaw03_HeirIsOrder.j0 k l0 t122 t123 bt125.1 false) else ((cosignerlaw03_is.f l0 t122 t123).bind fun t133 => (if t133 = true then ((cosignerlaw03_is.f l0 t123 t122).bind fun t134 => (cosignerlaw03_HeirIsOrder.j0 k l0 t122 t123 bt125.1 t134)) else (cosignerlaw03_HeirIsOrder.j0 k l0 t122 t123 bt125.1 false)))) else (cosignerlaw03_HeirIsOrder.j0 k l0 t122 t123 bt125.1 true))) else (if t122.toList = t123.toList then (cosignerlaw03_HeirIsOrder.j0 k l0 t122 t123 bt125.1 false) else ((cosignerlaw03_is.f l0 t122 t123).bind fun t135 => (if t135 = true then ((cosignerlaw03_is.f l0 t123 t122).bind fun t136 => (cosignerlaw03_HeirIsOrder.j0 k l0 t122 t123 bt125.1 t136)) else (cosignerlaw03_HeirIsOrder.j0 k l0 t122 t123 bt125.1 false)))))) else (if t122.toList = t123.toList then (cosignerlaw03_HeirIsOrder.j0 k l0 t122 t123 bt125.1 false) else ((cosignerlaw03_is.f l0 t122 t123).bind fun t137 => (if t137 = true then ((cosignerlaw03_is.f l0 t123 t122).bind fun t138 => (cosignerlaw03_HeirIsOrder.j0 k l0 t122 t123 bt125.1 t138)) else (cosignerlaw03_HeirIsOrder.j0 k l0 t122 t123 bt125.1 false)))))) else (cosignerlaw03_HeirIsOrder.j0 k l0 t122 t123 bt125.1 true))) else (cosignerlaw03_HeirIsOrder.j0 k l0 t122 t123 bt125.1 true))) = some r := H
    have A9 := Aside0.mk A90
    clear A90
    replace H := Option.bind_eq_some_iff.mp H
    obtain ⟨⟨t125, t126⟩, A100, H⟩ := H
    replace H : (if t126 = 0 then ((cosignerlaw03_is.f l0 t122 t122).bind fun t129 => (if t129 = true then ((cosignerlaw03_is.f l0 t122 t123).bind fun t130 => (if t130 = true then ((cosignerlaw03_is.f l0 t123 t124).bind fun t131 => (if t131 = true then ((cosignerlaw03_is.f l0 t122 t124).bind fun t132 => (if t132 = true then (if t122.toList = t123.toList then (cosignerlaw03_HeirIsOrder.j0 k l0 t122 t123 t125 false) else ((cosignerlaw03_is.f l0 t122 t123).bind fun t133 => (if t133 = true then ((cosignerlaw03_is.f l0 t123 t122).bind fun t134 => (cosignerlaw03_HeirIsOrder.j0 k l0 t122 t123 t125 t134)) else (cosignerlaw03_HeirIsOrder.j0 k l0 t122 t123 t125 false)))) else (cosignerlaw03_HeirIsOrder.j0 k l0 t122 t123 t125 true))) else (if t122.toList = t123.toList then (cosignerlaw03_HeirIsOrder.j0 k l0 t122 t123 t125 false) else ((cosignerlaw03_is.f l0 t122 t123).bind fun t135 => (if t135 = true then ((cosignerlaw03_is.f l0 t123 t122).bind fun t136 => (cosignerlaw03_HeirIsOrder.j0 k l0 t122 t123 t125 t136)) else (cosignerlaw03_HeirIsOrder.j0 k l0 t122 t123 t125 false)))))) else (if t122.toList = t123.toList then (cosignerlaw03_HeirIsOrder.j0 k l0 t122 t123 t125 false) else ((cosignerlaw03_is.f l0 t122 t123).bind fun t137 => (if t137 = true then ((cosignerlaw03_is.f l0 t123 t122).bind fun t138 => (cosignerlaw03_HeirIsOrder.j0 k l0 t122 t123 t125 t138)) else (cosignerlaw03_HeirIsOrder.j0 k l0 t122 t123 t125 false)))))) else (cosignerlaw03_HeirIsOrder.j0 k l0 t122 t123 t125 true))) else (cosignerlaw03_HeirIsOrder.j0 k l0 t122 t123 t125 true)) = some r := H
    have A10 := Aside0.mk A100
    clear A100
    have HC11 := Aside0.mk H
    clear H
    go_enter Try.func11, Try.ntmps11
    go_upto_region 7 with (first | ((with_reducible refine gate_callee (f := 30) rfl ?_); refine goesL_ (some 15) rfl rfl Try.func30 (by kernel_rfl) rfl #[.slice A0 l0.length c0] rfl (by (try simp only [List.map_toArray, List.map_cons, List.map_nil]); first | done | rfl | (simp only [List.length_drop, List.length_take]; rfl)) ?_; (with_reducible refine (cosignerlaw03_right.calls _ _ l0 true _ ?side1 ?side2 A5.out).mono ?_); (case side1 => repeat (first | exact HR0.out | (with_reducible refine Kd.C_alloc ?_ _) | (with_reducible refine Kd.C_drewN ?_ _) | (with_reducible refine Kd.C_drew ?_))); (case side2 => exact HC0.out); rintro e w12 ⟨rfl, hb⟩; refine ⟨_, rfl, ?_⟩; have n0_ := Aside0.mk (below_step (by repeat (first | (with_reducible first | exact HB.out | apply below_alloc | apply pw_below_drewN | apply below_drew1) | exact HB.out)) hb); clear HB; have HB := n0_; clear n0_; (try clear hb); (try clear hb2); (try clear hk); (try clear hi)) | ((with_reducible refine gate_callee (f := 31) rfl ?_); refine goesL_ (some 20) rfl rfl Try.func31 (by kernel_rfl) rfl #[.slice A0 l0.length c0, .int .u8 a1] rfl (by (try simp only [List.map_toArray, List.map_cons, List.map_nil]); first | done | rfl | (simp only [List.length_drop, List.length_take]; rfl)) ?_; (with_reducible refine (cosignerlaw03_name.calls _ _ l0 a1 t122 _ ?side1 ?side2 A7.out).mono ?_); (case side1 => repeat (first | exact (Kd.C_below HR0.out HB.out) | (with_reducible refine Kd.C_alloc ?_ _) | (with_reducible refine Kd.C_drewN ?_ _) | (with_reducible refine Kd.C_drew ?_))); (case side2 => exact HC0.out); rintro e w' ⟨rfl, ⟨nd, rfl⟩⟩; refine ⟨_, rfl, ?_⟩) | ((with_reducible refine gate_callee (f := 31) rfl ?_); refine goesL_ (some 23) rfl rfl Try.func31 (by kernel_rfl) rfl #[.slice A0 l0.length c0, .int .u8 a2] rfl (by (try simp only [List.map_toArray, List.map_cons, List.map_nil]); first | done | rfl | (simp only [List.length_drop, List.length_take]; rfl)) ?_; (with_reducible refine (cosignerlaw03_name.calls _ _ l0 a2 t123 _ ?side1 ?side2 A8.out).mono ?_); (case side1 => repeat (first | exact (Kd.C_below HR0.out (by repeat (first | (with_reducible first | exact HB.out | apply below_alloc | apply pw_below_drewN | apply below_drew1) | exact HB.out))) | (with_reducible refine Kd.C_alloc ?_ _) | (with_reducible refine Kd.C_drewN ?_ _) | (with_reducible refine Kd.C_drew ?_))); (case side2 => exact HC0.out); rintro e w' ⟨rfl, ⟨nd, rfl⟩⟩; refine ⟨_, rfl, ?_⟩) | ((with_reducible refine gate_callee (f := 31) rfl ?_); refine goesL_ (some 26) rfl rfl Try.func31 (by kernel_rfl) rfl #[.slice A0 l0.length c0, .int .u8 a3] rfl (by (try simp only [List.map_toArray, List.map_cons, List.map_nil]); first | done | rfl | (simp only [List.length_drop, List.length_take]; rfl)) ?_; (with_reducible refine (cosignerlaw03_name.calls _ _ l0 a3 t124 _ ?side1 ?side2 A9.out).mono ?_); (case side1 => repeat (first | exact (Kd.C_below HR0.out (by repeat (first | (with_reducible first | exact HB.out | apply below_alloc | apply pw_below_drewN | apply below_drew1) | exact HB.out))) | (with_reducible refine Kd.C_alloc ?_ _) | (with_reducible refine Kd.C_drewN ?_ _) | (with_reducible refine Kd.C_drew ?_))); (case side2 => exact HC0.out); rintro e w' ⟨rfl, ⟨nd, rfl⟩⟩; refine ⟨_, rfl, ?_⟩) | ((with_reducible refine gate_callee (f := 38) rfl ?_); refine goesL_ (some 30) rfl rfl Try.func38 (by kernel_rfl) rfl #[.slice A0 l0.length c0, .string t122] rfl (by (try simp only [List.map_toArray, List.map_cons, List.map_nil]); first | done | rfl | (simp only [List.length_drop, List.length_take]; rfl)) ?_; (with_reducible refine (heir_Below.calls _ _ l0 t122 t125 t126 _ ?side1 ?side2 A10.out).mono ?_); (case side1 => repeat (first | exact (Kd.C_below HR0.out (by repeat (first | (with_reducible first | exact HB.out | apply below_alloc | apply pw_below_drewN | apply below_drew1) | exact HB.out))) | (with_reducible refine Kd.C_alloc ?_ _) | (with_reducible refine Kd.C_drewN ?_ _) | (with_reducible refine Kd.C_drew ?_))); (case side2 => exact HC0.out); rintro e w13 ⟨v127, rfl, ho0, hb⟩; refine ⟨_, rfl, ?_⟩; have n0_ := Aside0.mk (Kd.R_lower ho0 (below_size (by repeat (first | (with_reducible first | exact HB.out | apply below_alloc | apply pw_below_drewN | apply below_drew1) | exact HB.out)))); have n1_ := Aside0.mk (below_step (by repeat (first | (with_reducible first | exact HB.out | apply below_alloc | apply pw_below_drewN | apply below_drew1) | exact HB.out)) hb); clear HB; have HO128 := n0_; have HB := n1_; clear n0_ n1_; (try clear hb); (try clear hb2); (try clear hk); (try clear hi); (try clear ho0)))
    (try simp only [Act.put, List.setIfInBounds_toArray, List.set_cons_zero, List.set_cons_succ])
    go_cut [77] (fun v77 wc => ∃ (kq : Nat) (x77_10 : Bool), v77 = .bool x77_10 ∧ Aside0 (cosignerlaw03_HeirIsOrder.j0 kq l0 t122 t123 t125 x77_10 = some r) ∧ Aside0 (kq ≤ k) ∧ Aside0 (Kd.R Kd.string 9 wc w.heap.size (fun _ => True) v127 t125) ∧ Aside0 (Below w.heap.size w wc))
    case first =>
      have H := HC11.out
      clear HC11
      by_cases c14 : t126 = 0
      · rw [if_pos c14] at H
        have c14b0 : (t126 == 0) = true := beq_iff_eq.mpr c14
        have c14b1 : (t126 != 0) = false := bne_eq_false_iff_eq.mpr c14
        clear c14
        (first | rw [c14b0] | (simp only [i64_w, i32_w]; rw [c14b0]) | skip)
        replace H := Option.bind_eq_some_iff.mp H
        obtain ⟨t129, A150, H⟩ := H
        replace H : (if t129 = true then ((cosignerlaw03_is.f l0 t122 t123).bind fun t130 => (if t130 = true then ((cosignerlaw03_is.f l0 t123 t124).bind fun t131 => (if t131 = true then ((cosignerlaw03_is.f l0 t122 t124).bind fun t132 => (if t132 = true then (if t122.toList = t123.toList then (cosignerlaw03_HeirIsOrder.j0 k l0 t122 t123 t125 false) else ((cosignerlaw03_is.f l0 t122 t123).bind fun t133 => (if t133 = true then ((cosignerlaw03_is.f l0 t123 t122).bind fun t134 => (cosignerlaw03_HeirIsOrder.j0 k l0 t122 t123 t125 t134)) else (cosignerlaw03_HeirIsOrder.j0 k l0 t122 t123 t125 false)))) else (cosignerlaw03_HeirIsOrder.j0 k l0 t122 t123 t125 true))) else (if t122.toList = t123.toList then (cosignerlaw03_HeirIsOrder.j0 k l0 t122 t123 t125 false) else ((cosignerlaw03_is.f l0 t122 t123).bind fun t135 => (if t135 = true then ((cosignerlaw03_is.f l0 t123 t122).bind fun t136 => (cosignerlaw03_HeirIsOrder.j0 k l0 t122 t123 t125 t136)) else (cosignerlaw03_HeirIsOrder.j0 k l0 t122 t123 t125 false)))))) else (if t122.toList = t123.toList then (cosignerlaw03_HeirIsOrder.j0 k l0 t122 t123 t125 false) else ((cosignerlaw03_is.f l0 t122 t123).bind fun t137 => (if t137 = true then ((cosignerlaw03_is.f l0 t123 t122).bind fun t138 => (cosignerlaw03_HeirIsOrder.j0 k l0 t122 t123 t125 t138)) else (cosignerlaw03_HeirIsOrder.j0 k l0 t122 t123 t125 false)))))) else (cosignerlaw03_HeirIsOrder.j0 k l0 t122 t123 t125 true)) = some r := H
        have A15 := Aside0.mk A150
        clear A150
        by_cases c16 : t129 = true
        · subst c16
          have H1 : ((cosignerlaw03_is.f l0 t122 t123).bind fun t130 => (if t130 = true then ((cosignerlaw03_is.f l0 t123 t124).bind fun t131 => (if t131 = true then ((cosignerlaw03_is.f l0 t122 t124).bind fun t132 => (if t132 = true then (if t122.toList = t123.toList then (cosignerlaw03_HeirIsOrder.j0 k l0 t122 t123 t125 false) else ((cosignerlaw03_is.f l0 t122 t123).bind fun t133 => (if t133 = true then ((cosignerlaw03_is.f l0 t123 t122).bind fun t134 => (cosignerlaw03_HeirIsOrder.j0 k l0 t122 t123 t125 t134)) else (cosignerlaw03_HeirIsOrder.j0 k l0 t122 t123 t125 false)))) else (cosignerlaw03_HeirIsOrder.j0 k l0 t122 t123 t125 true))) else (if t122.toList = t123.toList then (cosignerlaw03_HeirIsOrder.j0 k l0 t122 t123 t125 false) else ((cosignerlaw03_is.f l0 t122 t123).bind fun t135 => (if t135 = true then ((cosignerlaw03_is.f l0 t123 t122).bind fun t136 => (cosignerlaw03_HeirIsOrder.j0 k l0 t122 t123 t125 t136)) else (cosignerlaw03_HeirIsOrder.j0 k l0 t122 t123 t125 false)))))) else (if t122.toList = t123.toList then (cosignerlaw03_HeirIsOrder.j0 k l0 t122 t123 t125 false) else ((cosignerlaw03_is.f l0 t122 t123).bind fun t137 => (if t137 = true then ((cosignerlaw03_is.f l0 t123 t122).bind fun t138 => (cosignerlaw03_HeirIsOrder.j0 k l0 t122 t123 t125 t138)) else (cosignerlaw03_HeirIsOrder.j0 k l0 t122 t123 t125 false)))))) = some r := by rw [if_pos rfl] at H; exact H
          clear H
          have H := H1
          clear H1
          replace H := Option.bind_eq_some_iff.mp H
          obtain ⟨t130, A170, H⟩ := H
          replace H : (if t130 = true then ((cosignerlaw03_is.f l0 t123 t124).bind fun t131 => (if t131 = true then ((cosignerlaw03_is.f l0 t122 t124).bind fun t132 => (if t132 = true then (if t122.toList = t123.toList then (cosignerlaw03_HeirIsOrder.j0 k l0 t122 t123 t125 false) else ((cosignerlaw03_is.f l0 t122 t123).bind fun t133 => (if t133 = true then ((cosignerlaw03_is.f l0 t123 t122).bind fun t134 => (cosignerlaw03_HeirIsOrder.j0 k l0 t122 t123 t125 t134)) else (cosignerlaw03_HeirIsOrder.j0 k l0 t122 t123 t125 false)))) else (cosignerlaw03_HeirIsOrder.j0 k l0 t122 t123 t125 true))) else (if t122.toList = t123.toList then (cosignerlaw03_HeirIsOrder.j0 k l0 t122 t123 t125 false) else ((cosignerlaw03_is.f l0 t122 t123).bind fun t135 => (if t135 = true then ((cosignerlaw03_is.f l0 t123 t122).bind fun t136 => (cosignerlaw03_HeirIsOrder.j0 k l0 t122 t123 t125 t136)) else (cosignerlaw03_HeirIsOrder.j0 k l0 t122 t123 t125 false)))))) else (if t122.toList = t123.toList then (cosignerlaw03_HeirIsOrder.j0 k l0 t122 t123 t125 false) else ((cosignerlaw03_is.f l0 t122 t123).bind fun t137 => (if t137 = true then ((cosignerlaw03_is.f l0 t123 t122).bind fun t138 => (cosignerlaw03_HeirIsOrder.j0 k l0 t122 t123 t125 t138)) else (cosignerlaw03_HeirIsOrder.j0 k l0 t122 t123 t125 false))))) = some r := H
          have A17 := Aside0.mk A170
          clear A170
          by_cases c18 : t130 = true
          · subst c18
            have H1 : ((cosignerlaw03_is.f l0 t123 t124).bind fun t131 => (if t131 = true then ((cosignerlaw03_is.f l0 t122 t124).bind fun t132 => (if t132 = true then (if t122.toList = t123.toList then (cosignerlaw03_HeirIsOrder.j0 k l0 t122 t123 t125 false) else ((cosignerlaw03_is.f l0 t122 t123).bind fun t133 => (if t133 = true then ((cosignerlaw03_is.f l0 t123 t122).bind fun t134 => (cosignerlaw03_HeirIsOrder.j0 k l0 t122 t123 t125 t134)) else (cosignerlaw03_HeirIsOrder.j0 k l0 t122 t123 t125 false)))) else (cosignerlaw03_HeirIsOrder.j0 k l0 t122 t123 t125 true))) else (if t122.toList = t123.toList then (cosignerlaw03_HeirIsOrder.j0 k l0 t122 t123 t125 false) else ((cosignerlaw03_is.f l0 t122 t123).bind fun t135 => (if t135 = true then ((cosignerlaw03_is.f l0 t123 t122).bind fun t136 => (cosignerlaw03_HeirIsOrder.j0 k l0 t122 t123 t125 t136)) else (cosignerlaw03_HeirIsOrder.j0 k l0 t122 t123 t125 false)))))) = some r := by rw [if_pos rfl] at H; exact H
            clear H
            have H := H1
            clear H1
            replace H := Option.bind_eq_some_iff.mp H
            obtain ⟨t131, A190, H⟩ := H
            replace H : (if t131 = true then ((cosignerlaw03_is.f l0 t122 t124).bind fun t132 => (if t132 = true then (if t122.toList = t123.toList then (cosignerlaw03_HeirIsOrder.j0 k l0 t122 t123 t125 false) else ((cosignerlaw03_is.f l0 t122 t123).bind fun t133 => (if t133 = true then ((cosignerlaw03_is.f l0 t123 t122).bind fun t134 => (cosignerlaw03_HeirIsOrder.j0 k l0 t122 t123 t125 t134)) else (cosignerlaw03_HeirIsOrder.j0 k l0 t122 t123 t125 false)))) else (cosignerlaw03_HeirIsOrder.j0 k l0 t122 t123 t125 true))) else (if t122.toList = t123.toList then (cosignerlaw03_HeirIsOrder.j0 k l0 t122 t123 t125 false) else ((cosignerlaw03_is.f l0 t122 t123).bind fun t135 => (if t135 = true then ((cosignerlaw03_is.f l0 t123 t122).bind fun t136 => (cosignerlaw03_HeirIsOrder.j0 k l0 t122 t123 t125 t136)) else (cosignerlaw03_HeirIsOrder.j0 k l0 t122 t123 t125 false))))) = some r := H
            have A19 := Aside0.mk A190
            clear A190
            by_cases c20 : t131 = true
            · subst c20
              have H1 : ((cosignerlaw03_is.f l0 t122 t124).bind fun t132 => (if t132 = true then (if t122.toList = t123.toList then (cosignerlaw03_HeirIsOrder.j0 k l0 t122 t123 t125 false) else ((cosignerlaw03_is.f l0 t122 t123).bind fun t133 => (if t133 = true then ((cosignerlaw03_is.f l0 t123 t122).bind fun t134 => (cosignerlaw03_HeirIsOrder.j0 k l0 t122 t123 t125 t134)) else (cosignerlaw03_HeirIsOrder.j0 k l0 t122 t123 t125 false)))) else (cosignerlaw03_HeirIsOrder.j0 k l0 t122 t123 t125 true))) = some r := by rw [if_pos rfl] at H; exact H
              clear H
              have H := H1
              clear H1
              replace H := Option.bind_eq_some_iff.mp H
              obtain ⟨t132, A210, H⟩ := H
              replace H : (if t132 = true then (if t122.toList = t123.toList then (cosignerlaw03_HeirIsOrder.j0 k l0 t122 t123 t125 false) else ((cosignerlaw03_is.f l0 t122 t123).bind fun t133 => (if t133 = true then ((cosignerlaw03_is.f l0 t123 t122).bind fun t134 => (cosignerlaw03_HeirIsOrder.j0 k l0 t122 t123 t125 t134)) else (cosignerlaw03_HeirIsOrder.j0 k l0 t122 t123 t125 false)))) else (cosignerlaw03_HeirIsOrder.j0 k l0 t122 t123 t125 true)) = some r := H
              have A21 := Aside0.mk A210
              clear A210
              by_cases c22 : t132 = true
              · subst c22
                have H1 : (if t122.toList = t123.toList then (cosignerlaw03_HeirIsOrder.j0 k l0 t122 t123 t125 false) else ((cosignerlaw03_is.f l0 t122 t123).bind fun t133 => (if t133 = true then ((cosignerlaw03_is.f l0 t123 t122).bind fun t134 => (cosignerlaw03_HeirIsOrder.j0 k l0 t122 t123 t125 t134)) else (cosignerlaw03_HeirIsOrder.j0 k l0 t122 t123 t125 false)))) = some r := by rw [if_pos rfl] at H; exact H
                clear H
                have H := H1
                clear H1
                by_cases c23 : t122.toList = t123.toList
                · rw [if_pos c23] at H
                  have c23b0 : (t122.toList == t123.toList) = true := beq_iff_eq.mpr c23
                  have c23b1 : (t122.toList != t123.toList) = false := bne_eq_false_iff_eq.mpr c23
                  clear c23
                  have H' := Aside0.mk H
                  clear H
                  go_wp2_with (first | (go_at_call 33; (with_reducible refine (cosignerlaw03_is.calls _ _ l0 t122 t122 true _ ?side1 ?side2 A15.out).mono ?_); (case side1 => repeat (first | exact (Kd.C_below HR0.out HB.out) | (with_reducible refine Kd.C_alloc ?_ _) | (with_reducible refine Kd.C_drewN ?_ _) | (with_reducible refine Kd.C_drew ?_))); (case side2 => exact HC0.out); rintro e w24 ⟨rfl, hb⟩; have n0_ := Aside0.mk (Kd.R_below (by (with_reducible repeat (first | apply Kd.R_alloc | apply Kd.R_drewN | apply Kd.R_drew)); exact HO128.out) hb); have n1_ := Aside0.mk (below_step (by repeat (first | (with_reducible first | exact HB.out | apply below_alloc | apply pw_below_drewN | apply below_drew1) | exact HB.out)) hb); clear HO128; clear HB; have HO128 := n0_; have HB := n1_; clear n0_ n1_; (try clear hb); (try clear hb2); (try clear hk); (try clear hi)) | (go_at_call 33; (with_reducible refine (cosignerlaw03_is.calls _ _ l0 t122 t123 true _ ?side1 ?side2 A17.out).mono ?_); (case side1 => repeat (first | exact (Kd.C_below HR0.out HB.out) | (with_reducible refine Kd.C_alloc ?_ _) | (with_reducible refine Kd.C_drewN ?_ _) | (with_reducible refine Kd.C_drew ?_))); (case side2 => exact HC0.out); rintro e w25 ⟨rfl, hb⟩; have n0_ := Aside0.mk (Kd.R_below (by (with_reducible repeat (first | apply Kd.R_alloc | apply Kd.R_drewN | apply Kd.R_drew)); exact HO128.out) hb); have n1_ := Aside0.mk (below_step (by repeat (first | (with_reducible first | exact HB.out | apply below_alloc | apply pw_below_drewN | apply below_drew1) | exact HB.out)) hb); clear HO128; clear HB; have HO128 := n0_; have HB := n1_; clear n0_ n1_; (try clear hb); (try clear hb2); (try clear hk); (try clear hi)) | (go_at_call 33; (with_reducible refine (cosignerlaw03_is.calls _ _ l0 t123 t124 true _ ?side1 ?side2 A19.out).mono ?_); (case side1 => repeat (first | exact (Kd.C_below HR0.out HB.out) | (with_reducible refine Kd.C_alloc ?_ _) | (with_reducible refine Kd.C_drewN ?_ _) | (with_reducible refine Kd.C_drew ?_))); (case side2 => exact HC0.out); rintro e w26 ⟨rfl, hb⟩; have n0_ := Aside0.mk (Kd.R_below (by (with_reducible repeat (first | apply Kd.R_alloc | apply Kd.R_drewN | apply Kd.R_drew)); exact HO128.out) hb); have n1_ := Aside0.mk (below_step (by repeat (first | (with_reducible first | exact HB.out | apply below_alloc | apply pw_below_drewN | apply below_drew1) | exact HB.out)) hb); clear HO128; clear HB; have HO128 := n0_; have HB := n1_; clear n0_ n1_; (try clear hb); (try clear hb2); (try clear hk); (try clear hi)) | (go_at_call 33; (with_reducible refine (cosignerlaw03_is.calls _ _ l0 t122 t124 true _ ?side1 ?side2 A21.out).mono ?_); (case side1 => repeat (first | exact (Kd.C_below HR0.out HB.out) | (with_reducible refine Kd.C_alloc ?_ _) | (with_reducible refine Kd.C_drewN ?_ _) | (with_reducible refine Kd.C_drew ?_))); (case side2 => exact HC0.out); rintro e w27 ⟨rfl, hb⟩; have n0_ := Aside0.mk (Kd.R_below (by (with_reducible repeat (first | apply Kd.R_alloc | apply Kd.R_drewN | apply Kd.R_drew)); exact HO128.out) hb); have n1_ := Aside0.mk (below_step (by repeat (first | (with_reducible first | exact HB.out | apply below_alloc | apply pw_below_drewN | apply below_drew1) | exact HB.out)) hb); clear HO128; clear HB; have HO128 := n0_; have HB := n1_; clear n0_ n1_; (try clear hb); (try clear hb2); (try clear hk); (try clear hi)))
                  go_meet
                  case rel => exact ⟨_, (false), (by first | rfl | (simp; done) | (simp [*]; done)), H', ⟨by first | omega | exact Nat.le_refl _⟩, ⟨by (with_reducible repeat (first | apply Kd.R_alloc | apply Kd.R_drewN | apply Kd.R_drew)); exact HO128.out⟩, ⟨by repeat (first | (with_reducible first | exact HB.out | apply below_alloc | apply pw_below_drewN | apply below_drew1) | exact HB.out)⟩⟩
                · rw [if_neg c23] at H
                  have c23b0 : (t122.toList == t123.toList) = false := beq_eq_false_iff_ne.mpr c23
                  have c23b1 : (t122.toList != t123.toList) = true := bne_iff_ne.mpr c23
                  replace H := Option.bind_eq_some_iff.mp H
                  obtain ⟨t133, A280, H⟩ := H
                  replace H : (if t133 = true then ((cosignerlaw03_is.f l0 t123 t122).bind fun t134 => (cosignerlaw03_HeirIsOrder.j0 k l0 t122 t123 t125 t134)) else (cosignerlaw03_HeirIsOrder.j0 k l0 t122 t123 t125 false)) = some r := H
                  have A28 := Aside0.mk A280
                  clear A280
                  by_cases c29 : t133 = true
                  · subst c29
                    have H1 : ((cosignerlaw03_is.f l0 t123 t122).bind fun t134 => (cosignerlaw03_HeirIsOrder.j0 k l0 t122 t123 t125 t134)) = some r := by rw [if_pos rfl] at H; exact H
                    clear H
                    have H := H1
                    clear H1
                    replace H := Option.bind_eq_some_iff.mp H
                    obtain ⟨t134, A300, H⟩ := H
                    replace H : (cosignerlaw03_HeirIsOrder.j0 k l0 t122 t123 t125 t134) = some r := H
                    have A30 := Aside0.mk A300
                    clear A300
                    have H' := Aside0.mk H
                    clear H
                    go_wp2_with (first | (go_at_call 33; (with_reducible refine (cosignerlaw03_is.calls _ _ l0 t122 t122 true _ ?side1 ?side2 A15.out).mono ?_); (case side1 => repeat (first | exact (Kd.C_below HR0.out HB.out) | (with_reducible refine Kd.C_alloc ?_ _) | (with_reducible refine Kd.C_drewN ?_ _) | (with_reducible refine Kd.C_drew ?_))); (case side2 => exact HC0.out); rintro e w31 ⟨rfl, hb⟩; have n0_ := Aside0.mk (Kd.R_below (by (with_reducible repeat (first | apply Kd.R_alloc | apply Kd.R_drewN | apply Kd.R_drew)); exact HO128.out) hb); have n1_ := Aside0.mk (below_step (by repeat (first | (with_reducible first | exact HB.out | apply below_alloc | apply pw_below_drewN | apply below_drew1) | exact HB.out)) hb); clear HO128; clear HB; have HO128 := n0_; have HB := n1_; clear n0_ n1_; (try clear hb); (try clear hb2); (try clear hk); (try clear hi)) | (go_at_call 33; (with_reducible refine (cosignerlaw03_is.calls _ _ l0 t122 t123 true _ ?side1 ?side2 A17.out).mono ?_); (case side1 => repeat (first | exact (Kd.C_below HR0.out HB.out) | (with_reducible refine Kd.C_alloc ?_ _) | (with_reducible refine Kd.C_drewN ?_ _) | (with_reducible refine Kd.C_drew ?_))); (case side2 => exact HC0.out); rintro e w32 ⟨rfl, hb⟩; have n0_ := Aside0.mk (Kd.R_below (by (with_reducible repeat (first | apply Kd.R_alloc | apply Kd.R_drewN | apply Kd.R_drew)); exact HO128.out) hb); have n1_ := Aside0.mk (below_step (by repeat (first | (with_reducible first | exact HB.out | apply below_alloc | apply pw_below_drewN | apply below_drew1) | exact HB.out)) hb); clear HO128; clear HB; have HO128 := n0_; have HB := n1_; clear n0_ n1_; (try clear hb); (try clear hb2); (try clear hk); (try clear hi)) | (go_at_call 33; (with_reducible refine (cosignerlaw03_is.calls _ _ l0 t123 t124 true _ ?side1 ?side2 A19.out).mono ?_); (case side1 => repeat (first | exact (Kd.C_below HR0.out HB.out) | (with_reducible refine Kd.C_alloc ?_ _) | (with_reducible refine Kd.C_drewN ?_ _) | (with_reducible refine Kd.C_drew ?_))); (case side2 => exact HC0.out); rintro e w33 ⟨rfl, hb⟩; have n0_ := Aside0.mk (Kd.R_below (by (with_reducible repeat (first | apply Kd.R_alloc | apply Kd.R_drewN | apply Kd.R_drew)); exact HO128.out) hb); have n1_ := Aside0.mk (below_step (by repeat (first | (with_reducible first | exact HB.out | apply below_alloc | apply pw_below_drewN | apply below_drew1) | exact HB.out)) hb); clear HO128; clear HB; have HO128 := n0_; have HB := n1_; clear n0_ n1_; (try clear hb); (try clear hb2); (try clear hk); (try clear hi)) | (go_at_call 33; (with_reducible refine (cosignerlaw03_is.calls _ _ l0 t122 t124 true _ ?side1 ?side2 A21.out).mono ?_); (case side1 => repeat (first | exact (Kd.C_below HR0.out HB.out) | (with_reducible refine Kd.C_alloc ?_ _) | (with_reducible refine Kd.C_drewN ?_ _) | (with_reducible refine Kd.C_drew ?_))); (case side2 => exact HC0.out); rintro e w34 ⟨rfl, hb⟩; have n0_ := Aside0.mk (Kd.R_below (by (with_reducible repeat (first | apply Kd.R_alloc | apply Kd.R_drewN | apply Kd.R_drew)); exact HO128.out) hb); have n1_ := Aside0.mk (below_step (by repeat (first | (with_reducible first | exact HB.out | apply below_alloc | apply pw_below_drewN | apply below_drew1) | exact HB.out)) hb); clear HO128; clear HB; have HO128 := n0_; have HB := n1_; clear n0_ n1_; (try clear hb); (try clear hb2); (try clear hk); (try clear hi)) | (go_at_call 33; (with_reducible refine (cosignerlaw03_is.calls _ _ l0 t122 t123 true _ ?side1 ?side2 A28.out).mono ?_); (case side1 => repeat (first | exact (Kd.C_below HR0.out HB.out) | (with_reducible refine Kd.C_alloc ?_ _) | (with_reducible refine Kd.C_drewN ?_ _) | (with_reducible refine Kd.C_drew ?_))); (case side2 => exact HC0.out); rintro e w35 ⟨rfl, hb⟩; have n0_ := Aside0.mk (Kd.R_below (by (with_reducible repeat (first | apply Kd.R_alloc | apply Kd.R_drewN | apply Kd.R_drew)); exact HO128.out) hb); have n1_ := Aside0.mk (below_step (by repeat (first | (with_reducible first | exact HB.out | apply below_alloc | apply pw_below_drewN | apply below_drew1) | exact HB.out)) hb); clear HO128; clear HB; have HO128 := n0_; have HB := n1_; clear n0_ n1_; (try clear hb); (try clear hb2); (try clear hk); (try clear hi)) | (go_at_call 33; (with_reducible refine (cosignerlaw03_is.calls _ _ l0 t123 t122 t134 _ ?side1 ?side2 A30.out).mono ?_); (case side1 => repeat (first | exact (Kd.C_below HR0.out HB.out) | (with_reducible refine Kd.C_alloc ?_ _) | (with_reducible refine Kd.C_drewN ?_ _) | (with_reducible refine Kd.C_drew ?_))); (case side2 => exact HC0.out); rintro e w36 ⟨rfl, hb⟩; have n0_ := Aside0.mk (Kd.R_below (by (with_reducible repeat (first | apply Kd.R_alloc | apply Kd.R_drewN | apply Kd.R_drew)); exact HO128.out) hb); have n1_ := Aside0.mk (below_step (by repeat (first | (with_reducible first | exact HB.out | apply below_alloc | apply pw_below_drewN | apply below_drew1) | exact HB.out)) hb); clear HO128; clear HB; have HO128 := n0_; have HB := n1_; clear n0_ n1_; (try clear hb); (try clear hb2); (try clear hk); (try clear hi)))
                    go_meet
                    case rel => exact ⟨_, (t134), (by first | rfl | (simp; done) | (simp [*]; done)), H', ⟨by first | omega | exact Nat.le_refl _⟩, ⟨by (with_reducible repeat (first | apply Kd.R_alloc | apply Kd.R_drewN | apply Kd.R_drew)); exact HO128.out⟩, ⟨by repeat (first | (with_reducible first | exact HB.out | apply below_alloc | apply pw_below_drewN | apply below_drew1) | exact HB.out)⟩⟩
                  · replace c29 := Bool.eq_false_iff.mpr c29
                    subst c29
                    have H1 : (cosignerlaw03_HeirIsOrder.j0 k l0 t122 t123 t125 false) = some r := by rw [if_neg (show ¬ (false = true) by decide)] at H; exact H
                    clear H
                    have H := H1
                    clear H1
                    have H' := Aside0.mk H
                    clear H
                    exact absurd (A17.out.symm.trans A28.out) (by simp)
              · replace c22 := Bool.eq_false_iff.mpr c22
                subst c22
                have H1 : (cosignerlaw03_HeirIsOrder.j0 k l0 t122 t123 t125 true) = some r := by rw [if_neg (show ¬ (false = true) by decide)] at H; exact H
                clear H
                have H := H1
                clear H1
                have H' := Aside0.mk H
                clear H
                go_wp2_with (first | (go_at_call 33; (with_reducible refine (cosignerlaw03_is.calls _ _ l0 t122 t122 true _ ?side1 ?side2 A15.out).mono ?_); (case side1 => repeat (first | exact (Kd.C_below HR0.out HB.out) | (with_reducible refine Kd.C_alloc ?_ _) | (with_reducible refine Kd.C_drewN ?_ _) | (with_reducible refine Kd.C_drew ?_))); (case side2 => exact HC0.out); rintro e w42 ⟨rfl, hb⟩; have n0_ := Aside0.mk (Kd.R_below (by (with_reducible repeat (first | apply Kd.R_alloc | apply Kd.R_drewN | apply Kd.R_drew)); exact HO128.out) hb); have n1_ := Aside0.mk (below_step (by repeat (first | (with_reducible first | exact HB.out | apply below_alloc | apply pw_below_drewN | apply below_drew1) | exact HB.out)) hb); clear HO128; clear HB; have HO128 := n0_; have HB := n1_; clear n0_ n1_; (try clear hb); (try clear hb2); (try clear hk); (try clear hi)) | (go_at_call 33; (with_reducible refine (cosignerlaw03_is.calls _ _ l0 t122 t123 true _ ?side1 ?side2 A17.out).mono ?_); (case side1 => repeat (first | exact (Kd.C_below HR0.out HB.out) | (with_reducible refine Kd.C_alloc ?_ _) | (with_reducible refine Kd.C_drewN ?_ _) | (with_reducible refine Kd.C_drew ?_))); (case side2 => exact HC0.out); rintro e w43 ⟨rfl, hb⟩; have n0_ := Aside0.mk (Kd.R_below (by (with_reducible repeat (first | apply Kd.R_alloc | apply Kd.R_drewN | apply Kd.R_drew)); exact HO128.out) hb); have n1_ := Aside0.mk (below_step (by repeat (first | (with_reducible first | exact HB.out | apply below_alloc | apply pw_below_drewN | apply below_drew1) | exact HB.out)) hb); clear HO128; clear HB; have HO128 := n0_; have HB := n1_; clear n0_ n1_; (try clear hb); (try clear hb2); (try clear hk); (try clear hi)) | (go_at_call 33; (with_reducible refine (cosignerlaw03_is.calls _ _ l0 t123 t124 true _ ?side1 ?side2 A19.out).mono ?_); (case side1 => repeat (first | exact (Kd.C_below HR0.out HB.out) | (with_reducible refine Kd.C_alloc ?_ _) | (with_reducible refine Kd.C_drewN ?_ _) | (with_reducible refine Kd.C_drew ?_))); (case side2 => exact HC0.out); rintro e w44 ⟨rfl, hb⟩; have n0_ := Aside0.mk (Kd.R_below (by (with_reducible repeat (first | apply Kd.R_alloc | apply Kd.R_drewN | apply Kd.R_drew)); exact HO128.out) hb); have n1_ := Aside0.mk (below_step (by repeat (first | (with_reducible first | exact HB.out | apply below_alloc | apply pw_below_drewN | apply below_drew1) | exact HB.out)) hb); clear HO128; clear HB; have HO128 := n0_; have HB := n1_; clear n0_ n1_; (try clear hb); (try clear hb2); (try clear hk); (try clear hi)) | (go_at_call 33; (with_reducible refine (cosignerlaw03_is.calls _ _ l0 t122 t124 false _ ?side1 ?side2 A21.out).mono ?_); (case side1 => repeat (first | exact (Kd.C_below HR0.out HB.out) | (with_reducible refine Kd.C_alloc ?_ _) | (with_reducible refine Kd.C_drewN ?_ _) | (with_reducible refine Kd.C_drew ?_))); (case side2 => exact HC0.out); rintro e w45 ⟨rfl, hb⟩; have n0_ := Aside0.mk (Kd.R_below (by (with_reducible repeat (first | apply Kd.R_alloc | apply Kd.R_drewN | apply Kd.R_drew)); exact HO128.out) hb); have n1_ := Aside0.mk (below_step (by repeat (first | (with_reducible first | exact HB.out | apply below_alloc | apply pw_below_drewN | apply below_drew1) | exact HB.out)) hb); clear HO128; clear HB; have HO128 := n0_; have HB := n1_; clear n0_ n1_; (try clear hb); (try clear hb2); (try clear hk); (try clear hi)))
                go_meet
                case rel => exact ⟨_, (true), (by first | rfl | (simp; done) | (simp [*]; done)), H', ⟨by first | omega | exact Nat.le_refl _⟩, ⟨by (with_reducible repeat (first | apply Kd.R_alloc | apply Kd.R_drewN | apply Kd.R_drew)); exact HO128.out⟩, ⟨by repeat (first | (with_reducible first | exact HB.out | apply below_alloc | apply pw_below_drewN | apply below_drew1) | exact HB.out)⟩⟩
            · replace c20 := Bool.eq_false_iff.mpr c20
              subst c20
              have H1 : (if t122.toList = t123.toList then (cosignerlaw03_HeirIsOrder.j0 k l0 t122 t123 t125 false) else ((cosignerlaw03_is.f l0 t122 t123).bind fun t135 => (if t135 = true then ((cosignerlaw03_is.f l0 t123 t122).bind fun t136 => (cosignerlaw03_HeirIsOrder.j0 k l0 t122 t123 t125 t136)) else (cosignerlaw03_HeirIsOrder.j0 k l0 t122 t123 t125 false)))) = some r := by rw [if_neg (show ¬ (false = true) by decide)] at H; exact H
              clear H
              have H := H1
              clear H1
              by_cases c46 : t122.toList = t123.toList
              · rw [if_pos c46] at H
                have c46b0 : (t122.toList == t123.toList) = true := beq_iff_eq.mpr c46
                have c46b1 : (t122.toList != t123.toList) = false := bne_eq_false_iff_eq.mpr c46
                clear c46
                have H' := Aside0.mk H
                clear H
                go_wp2_with (first | (go_at_call 33; (with_reducible refine (cosignerlaw03_is.calls _ _ l0 t122 t122 true _ ?side1 ?side2 A15.out).mono ?_); (case side1 => repeat (first | exact (Kd.C_below HR0.out HB.out) | (with_reducible refine Kd.C_alloc ?_ _) | (with_reducible refine Kd.C_drewN ?_ _) | (with_reducible refine Kd.C_drew ?_))); (case side2 => exact HC0.out); rintro e w47 ⟨rfl, hb⟩; have n0_ := Aside0.mk (Kd.R_below (by (with_reducible repeat (first | apply Kd.R_alloc | apply Kd.R_drewN | apply Kd.R_drew)); exact HO128.out) hb); have n1_ := Aside0.mk (below_step (by repeat (first | (with_reducible first | exact HB.out | apply below_alloc | apply pw_below_drewN | apply below_drew1) | exact HB.out)) hb); clear HO128; clear HB; have HO128 := n0_; have HB := n1_; clear n0_ n1_; (try clear hb); (try clear hb2); (try clear hk); (try clear hi)) | (go_at_call 33; (with_reducible refine (cosignerlaw03_is.calls _ _ l0 t122 t123 true _ ?side1 ?side2 A17.out).mono ?_); (case side1 => repeat (first | exact (Kd.C_below HR0.out HB.out) | (with_reducible refine Kd.C_alloc ?_ _) | (with_reducible refine Kd.C_drewN ?_ _) | (with_reducible refine Kd.C_drew ?_))); (case side2 => exact HC0.out); rintro e w48 ⟨rfl, hb⟩; have n0_ := Aside0.mk (Kd.R_below (by (with_reducible repeat (first | apply Kd.R_alloc | apply Kd.R_drewN | apply Kd.R_drew)); exact HO128.out) hb); have n1_ := Aside0.mk (below_step (by repeat (first | (with_reducible first | exact HB.out | apply below_alloc | apply pw_below_drewN | apply below_drew1) | exact HB.out)) hb); clear HO128; clear HB; have HO128 := n0_; have HB := n1_; clear n0_ n1_; (try clear hb); (try clear hb2); (try clear hk); (try clear hi)) | (go_at_call 33; (with_reducible refine (cosignerlaw03_is.calls _ _ l0 t123 t124 false _ ?side1 ?side2 A19.out).mono ?_); (case side1 => repeat (first | exact (Kd.C_below HR0.out HB.out) | (with_reducible refine Kd.C_alloc ?_ _) | (with_reducible refine Kd.C_drewN ?_ _) | (with_reducible refine Kd.C_drew ?_))); (case side2 => exact HC0.out); rintro e w49 ⟨rfl, hb⟩; have n0_ := Aside0.mk (Kd.R_below (by (with_reducible repeat (first | apply Kd.R_alloc | apply Kd.R_drewN | apply Kd.R_drew)); exact HO128.out) hb); have n1_ := Aside0.mk (below_step (by repeat (first | (with_reducible first | exact HB.out | apply below_alloc | apply pw_below_drewN | apply below_drew1) | exact HB.out)) hb); clear HO128; clear HB; have HO128 := n0_; have HB := n1_; clear n0_ n1_; (try clear hb); (try clear hb2); (try clear hk); (try clear hi)))
                go_meet
                case rel => exact ⟨_, (false), (by first | rfl | (simp; done) | (simp [*]; done)), H', ⟨by first | omega | exact Nat.le_refl _⟩, ⟨by (with_reducible repeat (first | apply Kd.R_alloc | apply Kd.R_drewN | apply Kd.R_drew)); exact HO128.out⟩, ⟨by repeat (first | (with_reducible first | exact HB.out | apply below_alloc | apply pw_below_drewN | apply below_drew1) | exact HB.out)⟩⟩
              · rw [if_neg c46] at H
                have c46b0 : (t122.toList == t123.toList) = false := beq_eq_false_iff_ne.mpr c46
                have c46b1 : (t122.toList != t123.toList) = true := bne_iff_ne.mpr c46
                replace H := Option.bind_eq_some_iff.mp H
                obtain ⟨t135, A500, H⟩ := H
                replace H : (if t135 = true then ((cosignerlaw03_is.f l0 t123 t122).bind fun t136 => (cosignerlaw03_HeirIsOrder.j0 k l0 t122 t123 t125 t136)) else (cosignerlaw03_HeirIsOrder.j0 k l0 t122 t123 t125 false)) = some r := H
                have A50 := Aside0.mk A500
                clear A500
                by_cases c51 : t135 = true
                · subst c51
                  have H1 : ((cosignerlaw03_is.f l0 t123 t122).bind fun t136 => (cosignerlaw03_HeirIsOrder.j0 k l0 t122 t123 t125 t136)) = some r := by rw [if_pos rfl] at H; exact H
                  clear H
                  have H := H1
                  clear H1
                  replace H := Option.bind_eq_some_iff.mp H
                  obtain ⟨t136, A520, H⟩ := H
                  replace H : (cosignerlaw03_HeirIsOrder.j0 k l0 t122 t123 t125 t136) = some r := H
                  have A52 := Aside0.mk A520
                  clear A520
                  have H' := Aside0.mk H
                  clear H
                  go_wp2_with (first | (go_at_call 33; (with_reducible refine (cosignerlaw03_is.calls _ _ l0 t122 t122 true _ ?side1 ?side2 A15.out).mono ?_); (case side1 => repeat (first | exact (Kd.C_below HR0.out HB.out) | (with_reducible refine Kd.C_alloc ?_ _) | (with_reducible refine Kd.C_drewN ?_ _) | (with_reducible refine Kd.C_drew ?_))); (case side2 => exact HC0.out); rintro e w53 ⟨rfl, hb⟩; have n0_ := Aside0.mk (Kd.R_below (by (with_reducible repeat (first | apply Kd.R_alloc | apply Kd.R_drewN | apply Kd.R_drew)); exact HO128.out) hb); have n1_ := Aside0.mk (below_step (by repeat (first | (with_reducible first | exact HB.out | apply below_alloc | apply pw_below_drewN | apply below_drew1) | exact HB.out)) hb); clear HO128; clear HB; have HO128 := n0_; have HB := n1_; clear n0_ n1_; (try clear hb); (try clear hb2); (try clear hk); (try clear hi)) | (go_at_call 33; (with_reducible refine (cosignerlaw03_is.calls _ _ l0 t122 t123 true _ ?side1 ?side2 A17.out).mono ?_); (case side1 => repeat (first | exact (Kd.C_below HR0.out HB.out) | (with_reducible refine Kd.C_alloc ?_ _) | (with_reducible refine Kd.C_drewN ?_ _) | (with_reducible refine Kd.C_drew ?_))); (case side2 => exact HC0.out); rintro e w54 ⟨rfl, hb⟩; have n0_ := Aside0.mk (Kd.R_below (by (with_reducible repeat (first | apply Kd.R_alloc | apply Kd.R_drewN | apply Kd.R_drew)); exact HO128.out) hb); have n1_ := Aside0.mk (below_step (by repeat (first | (with_reducible first | exact HB.out | apply below_alloc | apply pw_below_drewN | apply below_drew1) | exact HB.out)) hb); clear HO128; clear HB; have HO128 := n0_; have HB := n1_; clear n0_ n1_; (try clear hb); (try clear hb2); (try clear hk); (try clear hi)) | (go_at_call 33; (with_reducible refine (cosignerlaw03_is.calls _ _ l0 t123 t124 false _ ?side1 ?side2 A19.out).mono ?_); (case side1 => repeat (first | exact (Kd.C_below HR0.out HB.out) | (with_reducible refine Kd.C_alloc ?_ _) | (with_reducible refine Kd.C_drewN ?_ _) | (with_reducible refine Kd.C_drew ?_))); (case side2 => exact HC0.out); rintro e w55 ⟨rfl, hb⟩; have n0_ := Aside0.mk (Kd.R_below (by (with_reducible repeat (first | apply Kd.R_alloc | apply Kd.R_drewN | apply Kd.R_drew)); exact HO128.out) hb); have n1_ := Aside0.mk (below_step (by repeat (first | (with_reducible first | exact HB.out | apply below_alloc | apply pw_below_drewN | apply below_drew1) | exact HB.out)) hb); clear HO128; clear HB; have HO128 := n0_; have HB := n1_; clear n0_ n1_; (try clear hb); (try clear hb2); (try clear hk); (try clear hi)) | (go_at_call 33; (with_reducible refine (cosignerlaw03_is.calls _ _ l0 t122 t123 true _ ?side1 ?side2 A50.out).mono ?_); (case side1 => repeat (first | exact (Kd.C_below HR0.out HB.out) | (with_reducible refine Kd.C_alloc ?_ _) | (with_reducible refine Kd.C_drewN ?_ _) | (with_reducible refine Kd.C_drew ?_))); (case side2 => exact HC0.out); rintro e w56 ⟨rfl, hb⟩; have n0_ := Aside0.mk (Kd.R_below (by (with_reducible repeat (first | apply Kd.R_alloc | apply Kd.R_drewN | apply Kd.R_drew)); exact HO128.out) hb); have n1_ := Aside0.mk (below_step (by repeat (first | (with_reducible first | exact HB.out | apply below_alloc | apply pw_below_drewN | apply below_drew1) | exact HB.out)) hb); clear HO128; clear HB; have HO128 := n0_; have HB := n1_; clear n0_ n1_; (try clear hb); (try clear hb2); (try clear hk); (try clear hi)) | (go_at_call 33; (with_reducible refine (cosignerlaw03_is.calls _ _ l0 t123 t122 t136 _ ?side1 ?side2 A52.out).mono ?_); (case side1 => repeat (first | exact (Kd.C_below HR0.out HB.out) | (with_reducible refine Kd.C_alloc ?_ _) | (with_reducible refine Kd.C_drewN ?_ _) | (with_reducible refine Kd.C_drew ?_))); (case side2 => exact HC0.out); rintro e w57 ⟨rfl, hb⟩; have n0_ := Aside0.mk (Kd.R_below (by (with_reducible repeat (first | apply Kd.R_alloc | apply Kd.R_drewN | apply Kd.R_drew)); exact HO128.out) hb); have n1_ := Aside0.mk (below_step (by repeat (first | (with_reducible first | exact HB.out | apply below_alloc | apply pw_below_drewN | apply below_drew1) | exact HB.out)) hb); clear HO128; clear HB; have HO128 := n0_; have HB := n1_; clear n0_ n1_; (try clear hb); (try clear hb2); (try clear hk); (try clear hi)))
                  go_meet
                  case rel => exact ⟨_, (t136), (by first | rfl | (simp; done) | (simp [*]; done)), H', ⟨by first | omega | exact Nat.le_refl _⟩, ⟨by (with_reducible repeat (first | apply Kd.R_alloc | apply Kd.R_drewN | apply Kd.R_drew)); exact HO128.out⟩, ⟨by repeat (first | (with_reducible first | exact HB.out | apply below_alloc | apply pw_below_drewN | apply below_drew1) | exact HB.out)⟩⟩
                · replace c51 := Bool.eq_false_iff.mpr c51
                  subst c51
                  have H1 : (cosignerlaw03_HeirIsOrder.j0 k l0 t122 t123 t125 false) = some r := by rw [if_neg (show ¬ (false = true) by decide)] at H; exact H
                  clear H
                  have H := H1
                  clear H1
                  have H' := Aside0.mk H
                  clear H
                  exact absurd (A17.out.symm.trans A50.out) (by simp)
          · replace c18 := Bool.eq_false_iff.mpr c18
            subst c18
            have H1 : (if t122.toList = t123.toList then (cosignerlaw03_HeirIsOrder.j0 k l0 t122 t123 t125 false) else ((cosignerlaw03_is.f l0 t122 t123).bind fun t137 => (if t137 = true then ((cosignerlaw03_is.f l0 t123 t122).bind fun t138 => (cosignerlaw03_HeirIsOrder.j0 k l0 t122 t123 t125 t138)) else (cosignerlaw03_HeirIsOrder.j0 k l0 t122 t123 t125 false)))) = some r := by rw [if_neg (show ¬ (false = true) by decide)] at H; exact H
            clear H
            have H := H1
            clear H1
            by_cases c62 : t122.toList = t123.toList
            · rw [if_pos c62] at H
              have c62b0 : (t122.toList == t123.toList) = true := beq_iff_eq.mpr c62
              have c62b1 : (t122.toList != t123.toList) = false := bne_eq_false_iff_eq.mpr c62
              clear c62
              have H' := Aside0.mk H
              clear H
              go_wp2_with (first | (go_at_call 33; (with_reducible refine (cosignerlaw03_is.calls _ _ l0 t122 t122 true _ ?side1 ?side2 A15.out).mono ?_); (case side1 => repeat (first | exact (Kd.C_below HR0.out HB.out) | (with_reducible refine Kd.C_alloc ?_ _) | (with_reducible refine Kd.C_drewN ?_ _) | (with_reducible refine Kd.C_drew ?_))); (case side2 => exact HC0.out); rintro e w63 ⟨rfl, hb⟩; have n0_ := Aside0.mk (Kd.R_below (by (with_reducible repeat (first | apply Kd.R_alloc | apply Kd.R_drewN | apply Kd.R_drew)); exact HO128.out) hb); have n1_ := Aside0.mk (below_step (by repeat (first | (with_reducible first | exact HB.out | apply below_alloc | apply pw_below_drewN | apply below_drew1) | exact HB.out)) hb); clear HO128; clear HB; have HO128 := n0_; have HB := n1_; clear n0_ n1_; (try clear hb); (try clear hb2); (try clear hk); (try clear hi)) | (go_at_call 33; (with_reducible refine (cosignerlaw03_is.calls _ _ l0 t122 t123 false _ ?side1 ?side2 A17.out).mono ?_); (case side1 => repeat (first | exact (Kd.C_below HR0.out HB.out) | (with_reducible refine Kd.C_alloc ?_ _) | (with_reducible refine Kd.C_drewN ?_ _) | (with_reducible refine Kd.C_drew ?_))); (case side2 => exact HC0.out); rintro e w64 ⟨rfl, hb⟩; have n0_ := Aside0.mk (Kd.R_below (by (with_reducible repeat (first | apply Kd.R_alloc | apply Kd.R_drewN | apply Kd.R_drew)); exact HO128.out) hb); have n1_ := Aside0.mk (below_step (by repeat (first | (with_reducible first | exact HB.out | apply below_alloc | apply pw_below_drewN | apply below_drew1) | exact HB.out)) hb); clear HO128; clear HB; have HO128 := n0_; have HB := n1_; clear n0_ n1_; (try clear hb); (try clear hb2); (try clear hk); (try clear hi)))
              go_meet
              case rel => exact ⟨_, (false), (by first | rfl | (simp; done) | (simp [*]; done)), H', ⟨by first | omega | exact Nat.le_refl _⟩, ⟨by (with_reducible repeat (first | apply Kd.R_alloc | apply Kd.R_drewN | apply Kd.R_drew)); exact HO128.out⟩, ⟨by repeat (first | (with_reducible first | exact HB.out | apply below_alloc | apply pw_below_drewN | apply below_drew1) | exact HB.out)⟩⟩
            · rw [if_neg c62] at H
              have c62b0 : (t122.toList == t123.toList) = false := beq_eq_false_iff_ne.mpr c62
              have c62b1 : (t122.toList != t123.toList) = true := bne_iff_ne.mpr c62
              replace H := Option.bind_eq_some_iff.mp H
              obtain ⟨t137, A650, H⟩ := H
              replace H : (if t137 = true then ((cosignerlaw03_is.f l0 t123 t122).bind fun t138 => (cosignerlaw03_HeirIsOrder.j0 k l0 t122 t123 t125 t138)) else (cosignerlaw03_HeirIsOrder.j0 k l0 t122 t123 t125 false)) = some r := H
              have A65 := Aside0.mk A650
              clear A650
              by_cases c66 : t137 = true
              · subst c66
                have H1 : ((cosignerlaw03_is.f l0 t123 t122).bind fun t138 => (cosignerlaw03_HeirIsOrder.j0 k l0 t122 t123 t125 t138)) = some r := by rw [if_pos rfl] at H; exact H
                clear H
                have H := H1
                clear H1
                replace H := Option.bind_eq_some_iff.mp H
                obtain ⟨t138, A670, H⟩ := H
                replace H : (cosignerlaw03_HeirIsOrder.j0 k l0 t122 t123 t125 t138) = some r := H
                have A67 := Aside0.mk A670
                clear A670
                have H' := Aside0.mk H
                clear H
                exact absurd (A17.out.symm.trans A65.out) (by simp)
              · replace c66 := Bool.eq_false_iff.mpr c66
                subst c66
                have H1 : (cosignerlaw03_HeirIsOrder.j0 k l0 t122 t123 t125 false) = some r := by rw [if_neg (show ¬ (false = true) by decide)] at H; exact H
                clear H
                have H := H1
                clear H1
                have H' := Aside0.mk H
                clear H
                go_wp2_with (first | (go_at_call 33; (with_reducible refine (cosignerlaw03_is.calls _ _ l0 t122 t122 true _ ?side1 ?side2 A15.out).mono ?_); (case side1 => repeat (first | exact (Kd.C_below HR0.out HB.out) | (with_reducible refine Kd.C_alloc ?_ _) | (with_reducible refine Kd.C_drewN ?_ _) | (with_reducible refine Kd.C_drew ?_))); (case side2 => exact HC0.out); rintro e w72 ⟨rfl, hb⟩; have n0_ := Aside0.mk (Kd.R_below (by (with_reducible repeat (first | apply Kd.R_alloc | apply Kd.R_drewN | apply Kd.R_drew)); exact HO128.out) hb); have n1_ := Aside0.mk (below_step (by repeat (first | (with_reducible first | exact HB.out | apply below_alloc | apply pw_below_drewN | apply below_drew1) | exact HB.out)) hb); clear HO128; clear HB; have HO128 := n0_; have HB := n1_; clear n0_ n1_; (try clear hb); (try clear hb2); (try clear hk); (try clear hi)) | (go_at_call 33; (with_reducible refine (cosignerlaw03_is.calls _ _ l0 t122 t123 false _ ?side1 ?side2 A17.out).mono ?_); (case side1 => repeat (first | exact (Kd.C_below HR0.out HB.out) | (with_reducible refine Kd.C_alloc ?_ _) | (with_reducible refine Kd.C_drewN ?_ _) | (with_reducible refine Kd.C_drew ?_))); (case side2 => exact HC0.out); rintro e w73 ⟨rfl, hb⟩; have n0_ := Aside0.mk (Kd.R_below (by (with_reducible repeat (first | apply Kd.R_alloc | apply Kd.R_drewN | apply Kd.R_drew)); exact HO128.out) hb); have n1_ := Aside0.mk (below_step (by repeat (first | (with_reducible first | exact HB.out | apply below_alloc | apply pw_below_drewN | apply below_drew1) | exact HB.out)) hb); clear HO128; clear HB; have HO128 := n0_; have HB := n1_; clear n0_ n1_; (try clear hb); (try clear hb2); (try clear hk); (try clear hi)) | (go_at_call 33; (with_reducible refine (cosignerlaw03_is.calls _ _ l0 t122 t123 false _ ?side1 ?side2 A65.out).mono ?_); (case side1 => repeat (first | exact (Kd.C_below HR0.out HB.out) | (with_reducible refine Kd.C_alloc ?_ _) | (with_reducible refine Kd.C_drewN ?_ _) | (with_reducible refine Kd.C_drew ?_))); (case side2 => exact HC0.out); rintro e w74 ⟨rfl, hb⟩; have n0_ := Aside0.mk (Kd.R_below (by (with_reducible repeat (first | apply Kd.R_alloc | apply Kd.R_drewN | apply Kd.R_drew)); exact HO128.out) hb); have n1_ := Aside0.mk (below_step (by repeat (first | (with_reducible first | exact HB.out | apply below_alloc | apply pw_below_drewN | apply below_drew1) | exact HB.out)) hb); clear HO128; clear HB; have HO128 := n0_; have HB := n1_; clear n0_ n1_; (try clear hb); (try clear hb2); (try clear hk); (try clear hi)))
                go_meet
                case rel => exact ⟨_, (false), (by first | rfl | (simp; done) | (simp [*]; done)), H', ⟨by first | omega | exact Nat.le_refl _⟩, ⟨by (with_reducible repeat (first | apply Kd.R_alloc | apply Kd.R_drewN | apply Kd.R_drew)); exact HO128.out⟩, ⟨by repeat (first | (with_reducible first | exact HB.out | apply below_alloc | apply pw_below_drewN | apply below_drew1) | exact HB.out)⟩⟩
        · replace c16 := Bool.eq_false_iff.mpr c16
          subst c16
          have H1 : (cosignerlaw03_HeirIsOrder.j0 k l0 t122 t123 t125 true) = some r := by rw [if_neg (show ¬ (false = true) by decide)] at H; exact H
          clear H
          have H := H1
          clear H1
          have H' := Aside0.mk H
          clear H
          go_wp2_with (first | (go_at_call 33; (with_reducible refine (cosignerlaw03_is.calls _ _ l0 t122 t122 false _ ?side1 ?side2 A15.out).mono ?_); (case side1 => repeat (first | exact (Kd.C_below HR0.out HB.out) | (with_reducible refine Kd.C_alloc ?_ _) | (with_reducible refine Kd.C_drewN ?_ _) | (with_reducible refine Kd.C_drew ?_))); (case side2 => exact HC0.out); rintro e w75 ⟨rfl, hb⟩; have n0_ := Aside0.mk (Kd.R_below (by (with_reducible repeat (first | apply Kd.R_alloc | apply Kd.R_drewN | apply Kd.R_drew)); exact HO128.out) hb); have n1_ := Aside0.mk (below_step (by repeat (first | (with_reducible first | exact HB.out | apply below_alloc | apply pw_below_drewN | apply below_drew1) | exact HB.out)) hb); clear HO128; clear HB; have HO128 := n0_; have HB := n1_; clear n0_ n1_; (try clear hb); (try clear hb2); (try clear hk); (try clear hi)))
          go_meet
          case rel => exact ⟨_, (true), (by first | rfl | (simp; done) | (simp [*]; done)), H', ⟨by first | omega | exact Nat.le_refl _⟩, ⟨by (with_reducible repeat (first | apply Kd.R_alloc | apply Kd.R_drewN | apply Kd.R_drew)); exact HO128.out⟩, ⟨by repeat (first | (with_reducible first | exact HB.out | apply below_alloc | apply pw_below_drewN | apply below_drew1) | exact HB.out)⟩⟩
      · rw [if_neg c14] at H
        have c14b0 : (t126 == 0) = false := beq_eq_false_iff_ne.mpr c14
        have c14b1 : (t126 != 0) = true := bne_iff_ne.mpr c14
        (first | rw [c14b0] | (simp only [i64_w, i32_w]; rw [c14b0]) | skip)
        have H' := Aside0.mk H
        clear H
        go_wp2
        go_meet
        case rel => exact ⟨_, (true), (by first | rfl | (simp; done) | (simp [*]; done)), H', ⟨by first | omega | exact Nat.le_refl _⟩, ⟨by (with_reducible repeat (first | apply Kd.R_alloc | apply Kd.R_drewN | apply Kd.R_drew)); exact HO128.out⟩, ⟨by repeat (first | (with_reducible first | exact HB.out | apply below_alloc | apply pw_below_drewN | apply below_drew1) | exact HB.out)⟩⟩
    case rest =>
      clear HC11
      try clear c1
      try clear c2
      try clear p2
      try clear c3
      try clear c4
      try clear c5
      try clear c6
      try clear c11
      try clear c14
      try clear c14b0
      try clear c14b1
      try clear c16
      try clear c18
      try clear c20
      try clear c22
      try clear c23
      try clear c23b0
      try clear c23b1
      try clear c29
      try clear c30
      try clear c31
      try clear c38
      try clear c46
      try clear c46b0
      try clear c46b1
      try clear c51
      try clear c62
      try clear c62b0
      try clear c62b1
      try clear c66
      obtain ⟨kq, x77_10, rfl, HA, HJ10, HO_12, HB⟩ := hcut
      cases kq with
      | zero => exact absurd HA.out (by simp [cosignerlaw03_HeirIsOrder.j0])
      | succ kj10 =>
        have H := HA.out
        clear HA
        simp only [cosignerlaw03_HeirIsOrder.j0] at H
        by_cases c76 : x77_10 = true
        · subst c76
          have H1 : (some false) = some r := by rw [if_pos rfl] at H; exact H
          clear H
          have H := H1
          clear H1
          obtain rfl := Option.some.inj H
          go_wp2
          go_ret
          exact ⟨by first | rfl | (simp [errW_none, errW_some] <;> rfl) | (simp [*, errW_none, errW_some] <;> rfl), by repeat (first | (with_reducible first | exact HB.out | apply below_alloc | apply pw_below_drewN | apply below_drew1) | exact HB.out)⟩
        · replace c76 := Bool.eq_false_iff.mpr c76
          subst c76
          have H1 : ((cosignerlaw03_sanity.f).bind fun t139 => (if t139 = true then ((cosignerlaw03_at.f kj10 t125 t123).bind fun t140 => ((cosignerlaw03_is.f l0 t123 t122).bind fun t141 => (some ((decide (t140 ≥ 0)) == t141)))) else (some false))) = some r := by rw [if_neg (show ¬ (false = true) by decide)] at H; exact H
          clear H
          have H := H1
          clear H1
          replace H := Option.bind_eq_some_iff.mp H
          obtain ⟨t139, A770, H⟩ := H
          replace H : (if t139 = true then ((cosignerlaw03_at.f kj10 t125 t123).bind fun t140 => ((cosignerlaw03_is.f l0 t123 t122).bind fun t141 => (some ((decide (t140 ≥ 0)) == t141)))) else (some false)) = some r := H
          have A77 := Aside0.mk A770
          clear A770
          by_cases c78 : t139 = true
          · subst c78
            have H1 : ((cosignerlaw03_at.f kj10 t125 t123).bind fun t140 => ((cosignerlaw03_is.f l0 t123 t122).bind fun t141 => (some ((decide (t140 ≥ 0)) == t141)))) = some r := by rw [if_pos rfl] at H; exact H
            clear H
            have H := H1
            clear H1
            replace H := Option.bind_eq_some_iff.mp H
            obtain ⟨t140, A790, H⟩ := H
            replace H : ((cosignerlaw03_is.f l0 t123 t122).bind fun t141 => (some ((decide (t140 ≥ 0)) == t141))) = some r := H
            have A79 := Aside0.mk A790
            clear A790
            replace H := Option.bind_eq_some_iff.mp H
            obtain ⟨t141, A800, H⟩ := H
            replace H : (some ((decide (t140 ≥ 0)) == t141)) = some r := H
            have A80 := Aside0.mk A800
            clear A800
            obtain rfl := Option.some.inj H
            go_wp2_with (first | ((with_reducible refine gate_callee (f := 16) rfl ?_); refine goesL_ (some 78) rfl rfl Try.func16 (by kernel_rfl) rfl #[] rfl (by (try simp only [List.map_toArray, List.map_cons, List.map_nil]); first | done | rfl | (simp only [List.length_drop, List.length_take]; rfl)) ?_; (with_reducible refine (cosignerlaw03_sanity.calls  true _ A77.out).mono ?_); rintro e w81 ⟨rfl, hb⟩; refine ⟨_, rfl, ?_⟩; have n0_ := Aside0.mk (Kd.R_below (by (with_reducible repeat (first | apply Kd.R_alloc | apply Kd.R_drewN | apply Kd.R_drew)); exact HO_12.out) hb); have n1_ := Aside0.mk (below_step (by repeat (first | (with_reducible first | exact HB.out | apply below_alloc | apply pw_below_drewN | apply below_drew1) | exact HB.out)) hb); clear HO_12; clear HB; have HO_12 := n0_; have HB := n1_; clear n0_ n1_; (try clear hb); (try clear hb2); (try clear hk); (try clear hi); obtain ⟨Ao82, co82, eo82⟩ := Kd.R_slice HO_12.out; subst eo82) | (go_at_call 35; (with_reducible refine (cosignerlaw03_at.calls kj10 _ _ t125 t123 t140 _ ?side1 ?side2 A79.out).mono ?_); (case side1 => repeat (first | exact (Kd.R_reads' HO_12.out).2.2 | (with_reducible refine Kd.C_alloc ?_ _) | (with_reducible refine Kd.C_drewN ?_ _) | (with_reducible refine Kd.C_drew ?_))); (case side2 => exact (Kd.R_reads' HO_12.out).2.1); rintro e w' ⟨rfl, ⟨nd, rfl⟩⟩) | (go_at_call 33; (with_reducible refine (cosignerlaw03_is.calls _ _ l0 t123 t122 t141 _ ?side1 ?side2 A80.out).mono ?_); (case side1 => repeat (first | exact (Kd.C_below HR0.out (by repeat (first | (with_reducible first | exact HB.out | apply below_alloc | apply pw_below_drewN | apply below_drew1) | exact HB.out))) | (with_reducible refine Kd.C_alloc ?_ _) | (with_reducible refine Kd.C_drewN ?_ _) | (with_reducible refine Kd.C_drew ?_))); (case side2 => exact HC0.out); rintro e w83 ⟨rfl, hb⟩; have n0_ := Aside0.mk (Kd.R_below (by (with_reducible repeat (first | apply Kd.R_alloc | apply Kd.R_drewN | apply Kd.R_drew)); exact HO_12.out) hb); have n1_ := Aside0.mk (below_step (by repeat (first | (with_reducible first | exact HB.out | apply below_alloc | apply pw_below_drewN | apply below_drew1) | exact HB.out)) hb); clear HO_12; clear HB; have HO_12 := n0_; have HB := n1_; clear n0_ n1_; (try clear hb); (try clear hb2); (try clear hk); (try clear hi)))
            go_ret
            exact ⟨by first | rfl | (simp [errW_none, errW_some] <;> rfl) | (simp [*, errW_none, errW_some] <;> rfl), by repeat (first | (with_reducible first | exact HB.out | apply below_alloc | apply pw_below_drewN | apply below_drew1) | exact HB.out)⟩
          · replace c78 := Bool.eq_false_iff.mpr c78
            subst c78
            have H1 : (some false) = some r := by rw [if_neg (show ¬ (false = true) by decide)] at H; exact H
            clear H
            have H := H1
            clear H1
            obtain rfl := Option.some.inj H
            go_wp2_with (first | ((with_reducible refine gate_callee (f := 16) rfl ?_); refine goesL_ (some 78) rfl rfl Try.func16 (by kernel_rfl) rfl #[] rfl (by (try simp only [List.map_toArray, List.map_cons, List.map_nil]); first | done | rfl | (simp only [List.length_drop, List.length_take]; rfl)) ?_; (with_reducible refine (cosignerlaw03_sanity.calls  false _ A77.out).mono ?_); rintro e w84 ⟨rfl, hb⟩; refine ⟨_, rfl, ?_⟩; have n0_ := Aside0.mk (Kd.R_below (by (with_reducible repeat (first | apply Kd.R_alloc | apply Kd.R_drewN | apply Kd.R_drew)); exact HO_12.out) hb); have n1_ := Aside0.mk (below_step (by repeat (first | (with_reducible first | exact HB.out | apply below_alloc | apply pw_below_drewN | apply below_drew1) | exact HB.out)) hb); clear HO_12; clear HB; have HO_12 := n0_; have HB := n1_; clear n0_ n1_; (try clear hb); (try clear hb2); (try clear hk); (try clear hi)))
            go_ret
            exact ⟨by first | rfl | (simp [errW_none, errW_some] <;> rfl) | (simp [*, errW_none, errW_some] <;> rfl), by repeat (first | (with_reducible first | exact HB.out | apply below_alloc | apply pw_below_drewN | apply below_drew1) | exact HB.out)⟩
  · replace c6 := Bool.eq_false_iff.mpr c6
    subst c6
    have H1 : ((cosignerlaw03_sanity.f).bind fun t121 => (some t121)) = some r := by rw [if_neg (show ¬ (false = true) by decide)] at H; exact H
    clear H
    have H := H1
    clear H1
    replace H := Option.bind_eq_some_iff.mp H
    obtain ⟨t121, A850, H⟩ := H
    replace H : (some t121) = some r := H
    have A85 := Aside0.mk A850
    clear A850
    obtain rfl := Option.some.inj H
    go_enter Try.func11, Try.ntmps11
    go_wp2_with (first | ((with_reducible refine gate_callee (f := 30) rfl ?_); refine goesL_ (some 15) rfl rfl Try.func30 (by kernel_rfl) rfl #[.slice A0 l0.length c0] rfl (by (try simp only [List.map_toArray, List.map_cons, List.map_nil]); first | done | rfl | (simp only [List.length_drop, List.length_take]; rfl)) ?_; (with_reducible refine (cosignerlaw03_right.calls _ _ l0 false _ ?side1 ?side2 A5.out).mono ?_); (case side1 => repeat (first | exact HR0.out | (with_reducible refine Kd.C_alloc ?_ _) | (with_reducible refine Kd.C_drewN ?_ _) | (with_reducible refine Kd.C_drew ?_))); (case side2 => exact HC0.out); rintro e w86 ⟨rfl, hb⟩; refine ⟨_, rfl, ?_⟩; have n0_ := Aside0.mk (below_step (by repeat (first | (with_reducible first | exact HB.out | apply below_alloc | apply pw_below_drewN | apply below_drew1) | exact HB.out)) hb); clear HB; have HB := n0_; clear n0_; (try clear hb); (try clear hb2); (try clear hk); (try clear hi)) | ((with_reducible refine gate_callee (f := 16) rfl ?_); refine goesL_ (some 17) rfl rfl Try.func16 (by kernel_rfl) rfl #[] rfl (by (try simp only [List.map_toArray, List.map_cons, List.map_nil]); first | done | rfl | (simp only [List.length_drop, List.length_take]; rfl)) ?_; (with_reducible refine (cosignerlaw03_sanity.calls  t121 _ A85.out).mono ?_); rintro e w87 ⟨rfl, hb⟩; refine ⟨_, rfl, ?_⟩; have n0_ := Aside0.mk (below_step (by repeat (first | (with_reducible first | exact HB.out | apply below_alloc | apply pw_below_drewN | apply below_drew1) | exact HB.out)) hb); clear HB; have HB := n0_; clear n0_; (try clear hb); (try clear hb2); (try clear hk); (try clear hi)))
    go_ret
    exact ⟨by first | rfl | (simp [errW_none, errW_some] <;> rfl) | (simp [*, errW_none, errW_some] <;> rfl), by repeat (first | (with_reducible first | exact HB.out | apply below_alloc | apply pw_below_drewN | apply below_drew1) | exact HB.out)⟩
end Go.Proofs.Ytdljclokenoogaa.Hp
end
section
namespace Go.Proofs.Ytdljclokenoogaa.Hw
open Go.RowKit Go.Proofs.Ytdljclokenoogaa.Hp Go.Proofs.YtdljclokenoogaaW.PrintWords Go.Proofs.YtdljclokenoogaaW.PrintLast Go.Proofs.YtdljclokenoogaaW.PrintMore
theorem toList_inj {a b : ByteArray} (h : a.toList = b.toList) : a = b := by
  have := toList_beq a b
  rw [h] at this
  simpa using this
theorem wrap64_of_range (i : Int) (h0 : -9223372036854775808 ≤ i) (h1 : i < 9223372036854775808) : wrap64 i = i := by unfold wrap64; omega
theorem right_val (l : List S61) : cosignerlaw03_right.f l = some (decide ((checkOf l).1 = 0 ∧ 0 < l.length)) := by
  unfold cosignerlaw03_right.f heir_Check.f
  by_cases h : (checkOf l).1 = 0
  · simp [h]
  · simp [h]
theorem asked_ok {l : List S61} (h : (checkOf l).1 = 0) {ns : List ByteArray} (hn : ∀ s ∈ ns, s ∈ names l) : askedOf l ns = 0 := by
  unfold askedOf
  rw [if_neg (by simpa using h), if_pos]
  exact List.all_eq_true.2 (fun s hs => idx_mem.2 (hn s hs))
structure Good (l : List S61) : Prop where
  ok : (checkOf l).1 = 0
  pos : 0 < l.length
section
variable {l : List S61} (h : Good l)
include h
theorem Good.small : l.length ≤ 24 := (checkOk h.ok).1
theorem Good.rank : ∃ rk : ByteArray → Nat, (∀ c p, p ∈ ups l c → rk p < rk c) ∧ ∀ c, rk c < l.length + 1 := rank_of_ring (checkOk h.ok).2.2.2
theorem Good.anc_iff {c a : ByteArray} : memS (anc l c) a = true ↔ ∃ m, reach (ups l) m c a := by
  obtain ⟨rk, hrk, hn⟩ := h.rank
  exact mem_vis hrk (hn c)
theorem Good.refl (c : ByteArray) : memS (anc l c) c = true := h.anc_iff.2 ⟨0, rfl⟩
theorem Good.trans {a b c : ByteArray} (h1 : memS (anc l a) b = true) (h2 : memS (anc l b) c = true) : memS (anc l a) c = true := by
  obtain ⟨n, hn⟩ := h.anc_iff.1 h1
  obtain ⟨m, hm⟩ := h.anc_iff.1 h2
  exact h.anc_iff.2 ⟨n + m, reach_trans hn hm⟩
theorem Good.anti {a b : ByteArray} (h1 : memS (anc l a) b = true) (h2 : memS (anc l b) a = true) : a = b := by
  obtain ⟨n, hn⟩ := h.anc_iff.1 h1
  obtain ⟨m, hm⟩ := h.anc_iff.1 h2
  obtain ⟨rk, hrk, _⟩ := h.rank
  have r1 := rank_reach hrk n a b hn
  have r2 := rank_reach hrk m b a hm
  have : n = 0 := by omega
  subst this
  exact hn
theorem Good.is {c a : ByteArray} (hc : c ∈ names l) (ha : a ∈ names l) : cosignerlaw03_is.f l c a = some (memS (anc l c) a) := by
  have e : isOf l c a = (memS (anc l c) a, 0) := by
    unfold isOf
    rw [if_pos (asked_ok h.ok (by simp [hc, ha]))]
  unfold cosignerlaw03_is.f heir_Is.f
  rw [e]
  cases memS (anc l c) a <;> rfl
theorem Good.below {c : ByteArray} (hc : c ∈ names l) : heir_Below.f l c = some ((names l).filter (fun d => memS (anc l d) c), 0) := by
  unfold heir_Below.f belowOf
  rw [if_pos (asked_ok h.ok (by simp [hc]))]
theorem Good.name (i : Int) (h0 : 0 ≤ i) (h1 : i < 256) : ∃ c ∈ names l, cosignerlaw03_name.f l i = some c := by
  have hp := h.pos
  unfold cosignerlaw03_name.f
  have hw : wrap64 i = i := wrap64_of_range i (by omega) (by omega)
  rw [hw]
  have e1 : Int.tmod i (l.length : Int) = i % (l.length : Int) := Int.tmod_eq_emod_of_nonneg h0
  have e2 : 0 ≤ i % (l.length : Int) := Int.emod_nonneg _ (by omega)
  have e3 : i % (l.length : Int) < l.length := Int.emod_lt_of_pos _ (by omega)
  rw [e1, if_neg (by omega), if_pos e2, if_pos e3]
  refine ⟨_, ?_, rfl⟩
  have e4 : (i % (l.length : Int)).toNat < l.length := by omega
  refine List.mem_map.2 ⟨rd_T61 l (i % (l.length : Int)), ?_, rfl⟩
  unfold rd_T61
  rw [List.getD_eq_getElem?_getD, List.getElem?_eq_getElem e4]
  exact List.getElem_mem _
end
theorem at_val (xs : List ByteArray) (s : ByteArray) (hl : xs.length < 4611686018427387904) (k : Nat) (hk : xs.length < k) : ∃ v : Int, cosignerlaw03_at.f k xs s = some v ∧ (decide (v ≥ 0)) = memS xs s := by
  have key : ∀ (d i k : Nat), xs.length - i = d → i ≤ xs.length → d < k → (∀ x ∈ xs.take i, x ≠ s) → ∃ v : Int, cosignerlaw03_at.l0 k xs s (i : Int) = some v ∧ (decide (v ≥ 0)) = memS xs s := by
    intro d
    induction d with
    | zero =>
      intro i k hd hi hk hx
      obtain ⟨k, rfl⟩ := Nat.exists_eq_add_of_lt hk
      have e : i = xs.length := by omega
      subst e
      rw [List.take_length] at hx
      refine ⟨-1, ?_, ?_⟩
      · simp [cosignerlaw03_at.l0]
      · have : memS xs s = false := by
          cases hm : memS xs s with
          | false => rfl
          | true => exact absurd rfl (hx s (memS_iff.1 hm))
        rw [this]; rfl
    | succ d ih =>
      intro i k hd hi hk hx
      have hil : i < xs.length := by omega
      cases k with
      | zero => omega
      | succ k =>
        simp only [cosignerlaw03_at.l0]
        rw [if_pos (by omega), if_pos (by omega)]
        have e : rdOf ByteArray.empty xs (i : Int) = xs[i] := by
          unfold rdOf
          simp [List.getD_eq_getElem?_getD, hil]
        rw [e]
        by_cases hs : xs[i] = s
        · rw [if_pos (by rw [hs])]
          refine ⟨_, rfl, ?_⟩
          have : memS xs s = true := memS_iff.2 (hs ▸ List.getElem_mem hil)
          rw [this]; simp
        · rw [if_neg (fun e => hs (toList_inj e))]
          have hw : wrap64 ((i : Int) + 1) = ((i + 1 : Nat) : Int) := by rw [wrap64_of_range _ (by omega) (by omega)]; push_cast; rfl
          rw [hw]
          refine ih (i + 1) k (by omega) hil (by omega) (fun x hx' => ?_)
          rw [List.take_succ_eq_append_getElem hil] at hx'
          rcases List.mem_append.1 hx' with hx' | hx'
          · exact hx x hx'
          · rw [List.mem_singleton.1 hx']; exact hs
  exact key _ 0 k rfl (Nat.zero_le _) (by omega) (by simp)
end Go.Proofs.Ytdljclokenoogaa.Hw
end
section
namespace Go.Proofs.Ytdljclokenoogaa.Hw
open Go.RowKit Go.Proofs.Ytdljclokenoogaa.Hp Go.Proofs.YtdljclokenoogaaW.PrintWords Go.Proofs.YtdljclokenoogaaW.PrintLast Go.Proofs.YtdljclokenoogaaW.PrintMore
theorem idx_place {l : List S61} {k : ByteArray} {i : Nat} (h : idx l k = some i) : (names l)[i]? = some k := by
  induction l generalizing i with
  | nil => cases h
  | cons a l ih =>
    simp only [idx] at h
    split at h
    · rename_i e; cases h; simp [names, e]
    · cases hi : idx l k with
      | none => rw [hi] at h; cases h
      | some j => rw [hi] at h; cases h; simpa [names] using ih hi
theorem rd_name {l : List S61} {q : Nat} (h : q < l.length) : (names l)[q]? = some (rd_T61 l (q : Int)).f0 := by
  simp [names, rd_T61, h]
section
variable {l : List S61} (h : Good l)
include h
theorem Good.idx_at {q : Nat} (hq : q < l.length) : idx l (rd_T61 l (q : Int)).f0 = some q := by
  have hm : (rd_T61 l (q : Int)).f0 ∈ names l := List.mem_of_getElem? (rd_name hq)
  obtain ⟨i, hi⟩ := Option.isSome_iff_exists.1 (idx_mem.2 hm)
  have h1 := idx_place hi
  have hnd := checkOk_nodup (checkOk h.ok).2.1
  have h2 := rd_name hq
  have hil := idx_lt hi
  have e : i = q := by
    obtain ⟨_, e1⟩ := List.getElem?_eq_some_iff.1 h1
    obtain ⟨_, e2⟩ := List.getElem?_eq_some_iff.1 h2
    rcases Nat.lt_trichotomy i q with hlt | he | hlt
    · exact absurd (e1.trans e2.symm) (List.pairwise_iff_getElem.1 hnd i q _ _ hlt)
    · exact he
    · exact absurd (e2.trans e1.symm) (List.pairwise_iff_getElem.1 hnd q i _ _ hlt)
  rw [hi, e]
omit h in
theorem Good.mem_at {q : Nat} (hq : q < l.length) : (rd_T61 l (q : Int)).f0 ∈ names l := List.mem_of_getElem? (rd_name hq)
theorem Good.parents_mem {q : Nat} (hq : q < l.length) : ∀ p ∈ (rd_T61 l (q : Int)).f3, p.f0 ∈ names l := by
  intro p hp
  have h1 := (checkOk h.ok).2.2.1 q hq
  unfold lonelyOf at h1
  have h2 := List.any_eq_false.1 h1 p hp
  refine idx_mem.1 ?_
  cases hi : idx l p.f0 with
  | none => rw [hi] at h2; simp at h2
  | some _ => rfl
theorem Good.ups_at {q : Nat} (hq : q < l.length) : ups l (rd_T61 l (q : Int)).f0 = (rd_T61 l (q : Int)).f3.map (·.f0) := by
  rw [ups_some (h.idx_at hq), List.filter_eq_self]
  intro p hp
  obtain ⟨x, hx, rfl⟩ := List.mem_map.1 hp
  exact idx_mem.2 (h.parents_mem hq x hx)
theorem Good.four {q : Nat} (hq : q < l.length) : (rd_T61 l (q : Int)).f3.length ≤ 4 := by
  have := checkOk_four (checkOk h.ok).2.1 (rd_T61 l (q : Int)).f0
  rw [h.ups_at hq, List.length_map] at this
  exact this
theorem Good.place (i : Int) (h0 : 0 ≤ i) (h1 : i < 256) : ∃ q : Nat, q < l.length ∧ Int.tmod (wrap64 i) (l.length : Int) = (q : Int) := by
  have hp := h.pos
  rw [wrap64_of_range i (by omega) (by omega), Int.tmod_eq_emod_of_nonneg h0]
  have e2 : 0 ≤ i % (l.length : Int) := Int.emod_nonneg _ (by omega)
  have e3 : i % (l.length : Int) < l.length := Int.emod_lt_of_pos _ (by omega)
  exact ⟨(i % (l.length : Int)).toNat, by omega, by omega⟩
def waysL (l : List S61) (c a : ByteArray) : Nat := waysN (ups l) (l.length + 1) c a
theorem Good.ways {c a : ByteArray} (hc : c ∈ names l) (ha : a ∈ names l) : heir_Ways.f l c a = some ((waysL l c a : Int), 0) := by
  unfold heir_Ways.f waysOf waysL
  rw [if_pos (asked_ok h.ok (by simp [hc, ha]))]
theorem Good.ways_step (c a : ByteArray) : waysL l c a = (if c = a then 1 else 0) + ((ups l c).map (fun p => waysL l p a)).sum := by
  obtain ⟨rk, hrk, hn⟩ := h.rank
  show waysN (ups l) (l.length + 1) c a = _
  simp only [waysN]
  congr 2
  refine List.map_congr_left (fun p hp => ?_)
  have h1 := hrk c p hp
  have h2 := hn c
  exact waysN_fuel hrk l.length (l.length + 1) p a (by omega) (hn p)
theorem Good.ways_le (c a : ByteArray) : waysL l c a ≤ 298023223876953125 := by
  refine Nat.le_trans (waysN_le (checkOk_four (checkOk h.ok).2.1) _ c a) ?_
  have := h.small
  have h5 : 298023223876953125 = 5 ^ 25 := by decide
  rw [h5]
  exact Nat.pow_le_pow_right (by omega) (by omega)
theorem Good.ways_pos (c a : ByteArray) : 0 < waysL l c a ↔ memS (anc l c) a = true := by
  obtain ⟨rk, hrk, hn⟩ := h.rank
  rw [h.anc_iff]
  refine waysN_pos _ c a |>.trans ⟨fun ⟨m, _, hm⟩ => ⟨m, hm⟩, fun ⟨m, hm⟩ => ⟨m, ?_, hm⟩⟩
  have h1 := rank_reach hrk m c a hm
  have h2 := hn c
  omega
end
end Go.Proofs.Ytdljclokenoogaa.Hw
end
section
namespace Go.Proofs.Ytdljclokenoogaa.Hw
open Go.RowKit Go.Proofs.Ytdljclokenoogaa.Hp
theorem nth_cons_zero (c : ByteArray) (r : List ByteArray) : nth (c :: r) 0 = c := rfl
theorem nth_cons_succ (c : ByteArray) (r : List ByteArray) (i : Nat) : nth (c :: r) (i + 1) = nth r i := by simp [nth]
theorem wk_nth {up : ByteArray → List ByteArray} : ∀ (n : Nat) (c a : ByteArray) (r : List ByteArray), Wk up n c a r ↔ r.length = n + 1 ∧ nth r 0 = c ∧ nth r n = a ∧ ∀ i, i < n → nth r (i + 1) ∈ up (nth r i)
  | 0, c, a, r => by
    constructor
    · rintro ⟨rfl, rfl⟩
      exact ⟨rfl, rfl, rfl, fun i hi => absurd hi (Nat.not_lt_zero i)⟩
    · rintro ⟨h1, h2, h3, _⟩
      match r, h1 with
      | [x], _ => exact ⟨h2.symm.trans h3, by rw [← h2]; rfl⟩
  | n + 1, c, a, r => by
    constructor
    · rintro ⟨p, r', hp, h, rfl⟩
      obtain ⟨h1, h2, h3, h4⟩ := (wk_nth n p a r').1 h
      refine ⟨by rw [List.length_cons, h1], rfl, by rw [nth_cons_succ]; exact h3, fun i hi => ?_⟩
      rw [nth_cons_succ]
      cases i with
      | zero => rw [nth_cons_zero, h2]; exact hp
      | succ i => rw [nth_cons_succ]; exact h4 i (by omega)
    · rintro ⟨h1, h2, h3, h4⟩
      match r, h1 with
      | x :: r', h1 =>
        rw [nth_cons_zero] at h2
        subst h2
        rw [nth_cons_succ] at h3
        refine ⟨nth r' 0, r', ?_, (wk_nth n _ _ _).2 ⟨by simpa using h1, rfl, h3, fun i hi => ?_⟩, rfl⟩
        · have := h4 0 (by omega)
          rw [nth_cons_succ, nth_cons_zero] at this
          exact this
        · have := h4 (i + 1) (by omega)
          rw [nth_cons_succ, nth_cons_succ] at this
          exact this
theorem nth_snoc (ns : List ByteArray) (c : ByteArray) (i : Nat) (hi : i ≤ ns.length) : nth (ns ++ [c]) i = if i = ns.length then c else nth ns i := by
  by_cases h : i = ns.length
  · rw [if_pos h, h]; simp [nth]
  · rw [if_neg h]
    have : i < ns.length := by omega
    simp [nth, List.getElem?_append_left this, List.getD_eq_getElem?_getD]
theorem ring_links {up : ByteArray → List ByteArray} (ns : List ByteArray) : RingS up ns ↔ 0 < ns.length ∧ ∀ i, i < ns.length → nth ns ((i + 1) % ns.length) ∈ up (nth ns i) := by
  constructor
  · rintro ⟨c, t, e, h⟩
    have hc : nth ns 0 = c := by rw [e]; rfl
    have hp : 0 < ns.length := by rw [e]; simp
    obtain ⟨_, _, _, h4⟩ := (wk_nth _ _ _ _).1 h
    refine ⟨hp, fun i hi => ?_⟩
    have h5 := h4 i hi
    rw [nth_snoc ns c i (by omega), if_neg (by omega), nth_snoc ns c (i + 1) (by omega)] at h5
    by_cases h6 : i + 1 = ns.length
    · rw [if_pos h6] at h5
      rw [h6, Nat.mod_self, hc]; exact h5
    · rw [if_neg h6] at h5
      rw [Nat.mod_eq_of_lt (by omega)]; exact h5
  · rintro ⟨hp, h⟩
    obtain ⟨c, t, e⟩ : ∃ c t, ns = c :: t := by
      cases ns with
      | nil => simp at hp
      | cons c t => exact ⟨c, t, rfl⟩
    have hc : nth ns 0 = c := by rw [e]; rfl
    refine ⟨c, t, e, (wk_nth _ _ _ _).2 ⟨by simp, ?_, ?_, fun i hi => ?_⟩⟩
    · rw [nth_snoc ns c 0 (by omega), if_neg (by omega)]; exact hc
    · rw [nth_snoc ns c _ (Nat.le_refl _), if_pos rfl]
    · have h5 := h i hi
      rw [nth_snoc ns c i (by omega), if_neg (by omega), nth_snoc ns c (i + 1) (by omega)]
      by_cases h6 : i + 1 = ns.length
      · rw [if_pos h6]
        rw [h6, Nat.mod_self, hc] at h5; exact h5
      · rw [if_neg h6]
        rw [Nat.mod_eq_of_lt (by omega)] at h5; exact h5
theorem checkRing_iff {l : List S61} {ns : List ByteArray} (hl : l.length ≤ 24) : checkRingOf l ns = 0 ↔ ns.length ≤ 24 ∧ ns.Nodup ∧ RingS (ups l) ns := by
  rw [ring_links]
  unfold checkRingOf
  constructor
  · intro h
    split at h
    · cases h
    · split at h
      · cases h
      · split at h
        · rename_i h1 h2 h3
          have hd : dupB ns = false := by
            cases hd : dupB ns with
            | false => rfl
            | true => exact absurd (.inr hd) h2
          refine ⟨by omega, (dupB_iff ns).1 hd, by omega, fun i hi => ?_⟩
          have := List.all_eq_true.1 h3 i (by simpa using hi)
          unfold linkB at this
          exact memS_iff.1 this
        · cases h
  · rintro ⟨h1, h2, h3, h4⟩
    rw [if_neg (by omega), if_neg, if_pos]
    · rw [List.all_eq_true]
      intro i hi
      unfold linkB
      exact memS_iff.2 (h4 i (by simpa using hi))
    · rintro (e | e)
      · omega
      · rw [(dupB_iff ns).2 h2] at e; cases e
theorem ring_of_check {l : List S61} {ns : List ByteArray} (hl : l.length ≤ 24) (h : checkRingOf l ns = 0) : ringOf l ≠ [] ∧ (ringOf l).length ≤ ns.length := by
  obtain ⟨_, _, hr⟩ := (checkRing_iff hl).1 h
  rcases ringOf_best l with ⟨_, h2⟩ | ⟨h0, _, h2⟩
  · exact absurd hr (h2 ns)
  · refine ⟨h0, ?_⟩
    have := h2 ns hr
    simp only [lessR, Bool.or_eq_false_iff, decide_eq_false_iff_not] at this
    omega
theorem check_of_ring {l : List S61} (hl : l.length ≤ 24) (h : ringOf l ≠ []) : checkRingOf l (ringOf l) = 0 := by
  rcases ringOf_best l with ⟨h1, _⟩ | ⟨_, h1, _⟩
  · exact absurd h1 h
  · refine (checkRing_iff hl).2 ⟨?_, ringOf_nodup l, h1⟩
    have h2 := length_le_of_subset (ringOf l) (names l) (ringOf_nodup l) (fun x hx => by
      obtain ⟨i, hi, rfl⟩ := List.mem_iff_getElem.1 hx
      have := ((ring_links _).1 h1).2 i hi
      have e : nth (ringOf l) i = (ringOf l)[i] := by simp [nth, hi]
      rw [e] at this
      exact (ups_mem this).1)
    rw [names_len] at h2
    omega
section
variable {l : List S61} (h : Good l) {c a : ByteArray} (hc : c ∈ names l) (ha : a ∈ names l)
include h hc ha
theorem Good.checkWay_iff (ns : List ByteArray) : checkWayOf l c a ns = 0 ↔ ∃ n, Wk (ups l) n c a ns := by
  unfold checkWayOf
  rw [if_neg (by rw [asked_ok h.ok (by simp [hc, ha])]; decide)]
  constructor
  · intro hk
    split at hk
    · cases hk
    · rename_i h1
      split at hk
      · rename_i h2
        refine ⟨ns.length - 1, (wk_nth _ _ _ _).2 ⟨by omega, Classical.byContradiction (fun e => h1 (.inr (.inl e))), Classical.byContradiction (fun e => h1 (.inr (.inr e))), fun i hi => ?_⟩⟩
        have := List.all_eq_true.1 h2 i (by simpa using hi)
        unfold stepB at this
        exact memS_iff.1 this
      · cases hk
  · rintro ⟨n, hw⟩
    obtain ⟨h1, h2, h3, h4⟩ := (wk_nth _ _ _ _).1 hw
    have e : ns.length - 1 = n := by omega
    rw [e, if_neg, if_pos]
    · rw [List.all_eq_true]
      intro i hi
      unfold stepB
      exact memS_iff.2 (h4 i (by simpa using hi))
    · rintro (e | e | e)
      · omega
      · exact e h2
      · exact e h3
theorem Good.way_ok : (memS (anc l c) a = true ∧ ∃ r, wayOf l c a = (r, 0) ∧ checkWayOf l c a r = 0 ∧ ∀ ns, checkWayOf l c a ns = 0 → r.length ≤ ns.length) ∨ (memS (anc l c) a = false ∧ wayOf l c a = ([], 5) ∧ ∀ ns, checkWayOf l c a ns ≠ 0) := by
  have hq : wayOf l c a = if (shortF (ups l) l.length a c).isEmpty then ([], 5) else (shortF (ups l) l.length a c, 0) := by
    unfold wayOf; rw [if_pos (asked_ok h.ok (by simp [hc, ha]))]
  by_cases he : shortF (ups l) l.length a c = []
  · refine .inr ⟨?_, by rw [hq, he]; rfl, ?_⟩
    all_goals
      have hn : ∀ m, ¬ reach (ups l) m c a := by
        intro m hm
        have hd := shortF_nil.1 (by rw [he]; rfl : (shortF (ups l) l.length a c).isEmpty = true)
        obtain ⟨rk, hrk, hrn⟩ := h.rank
        have h1 := rank_reach hrk m c a hm
        have h2 := hrn c
        exact distF_none.1 hd m (by omega) hm
    · cases hm : memS (anc l c) a with
      | false => rfl
      | true => obtain ⟨m, hm'⟩ := h.anc_iff.1 hm; exact absurd hm' (hn m)
    · intro ns hk
      obtain ⟨n, hw⟩ := (h.checkWay_iff hc ha ns).1 hk
      exact hn n hw.reach
  · obtain ⟨n, hd, hL⟩ := shortF_least he
    refine .inl ⟨h.anc_iff.2 ⟨n, hL.1.reach⟩, _, by rw [hq, if_neg (by simpa using he)], (h.checkWay_iff hc ha _).2 ⟨n, hL.1⟩, fun ns hk => ?_⟩
    obtain ⟨m, hw⟩ := (h.checkWay_iff hc ha ns).1 hk
    have h1 := hL.1.len
    have h2 := hw.len
    have h3 : n ≤ m := Nat.le_of_not_lt (fun hlt => (distF_some.1 hd).2.2 m hlt hw.reach)
    omega
end
end Go.Proofs.Ytdljclokenoogaa.Hw
end
section
namespace Go.Proofs.Ytdljclokenoogaa.Hw
open Go.RowKit Go.Proofs.Ytdljclokenoogaa.Hp Go.Proofs.YtdljclokenoogaaW.PrintWords Go.Proofs.YtdljclokenoogaaW.PrintLast Go.Proofs.YtdljclokenoogaaW.PrintMore
section
variable {H : Type} (enc : TypeId × Value → H) (W : World)
def Rd {α : Type} (d : Kd α) (t : TypeId) (n : Nat) : Prop := ∀ cs x, DataW.trod enc Try.prog W 0 (fun _ => true) true n t cs = some x → ∃ a : α, d.K W a cs
variable {enc W} {cs : List Value} {n : Nat} {t : TypeId}
theorem rd_fields {fs : Array Field} {x : DataW H × List MemPlace} (ht : Try.prog.underlying t = some (.struct fs)) (h : DataW.trod enc Try.prog W 0 (fun _ => true) true n t cs = some x) :
    ∃ m, n = m + 1 ∧ cs.length = Try.prog.cellsOf t ∧ ∀ (i : Nat) (f : Field), fs[i]? = some f → ∃ y, DataW.trod enc Try.prog W 0 (fun _ => true) true m f.type ((cs.drop f.offset).take (Try.prog.cellsOf f.type)) = some y := by
  obtain ⟨xs, m, rfl, _, hl, hx, hf⟩ := DataW.trod_struct ht h
  refine ⟨m, rfl, hl, fun i f hi => ?_⟩
  have hlt := (Array.getElem?_eq_some_iff.1 hi).1
  exact ⟨_, (hf i f hi).trans (List.getElem?_eq_getElem (by omega))⟩
theorem rd_at {α : Type} {d : Kd α} {k o : Nat} (hc : Try.prog.cellsOf t = k) (hr : Rd enc W d t n) (h : ∃ y, DataW.trod enc Try.prog W 0 (fun _ => true) true n t ((cs.drop o).take (Try.prog.cellsOf t)) = some y) : ∃ a, d.K W a ((cs.drop o).take k) := by
  obtain ⟨y, hy⟩ := h
  rw [hc] at hy
  exact hr _ _ hy
theorem rd_string (ht : Try.prog.underlying t = some .string) : Rd enc W Kd.string t n := fun cs x h => by
  obtain ⟨s, rfl, _⟩ := DataW.trod_string ht h
  exact ⟨s, rfl⟩
theorem rd_bool (ht : Try.prog.underlying t = some .bool) : Rd enc W Kd.bool t n := fun cs x h => by
  obtain ⟨s, rfl, _⟩ := DataW.trod_bool ht h
  exact ⟨s, rfl⟩
theorem rd_int (ht : Try.prog.underlying t = some (.int .i64)) : Rd enc W (Kd.int .i64) t n := fun cs x h => by
  obtain ⟨s, rfl, _⟩ := DataW.trod_int ht h
  exact ⟨s, rfl⟩
theorem rd_pair {α β : Type} {a : Kd α} {b : Kd β} {i k m : Nat} (h1 : ∃ x, a.K W x ((cs.drop i).take k)) (h2 : ∃ x, b.K W x ((cs.drop (i + k)).take m)) : ∃ x, (Kd.pair a b).K W x ((cs.drop i).take (k + m)) := by
  obtain ⟨x, hx⟩ := h1
  obtain ⟨y, hy⟩ := h2
  refine ⟨(x, y), _, _, ?_, hx, hy⟩
  rw [List.take_add, List.drop_drop]
theorem rd_all {α : Type} {d : Kd α} {k : Nat} (hl : cs.length = k) (h : ∃ x, d.K W x ((cs.drop 0).take k)) : ∃ x, d.K W x cs := by
  rw [List.drop_zero, List.take_of_length_le (Nat.le_of_eq hl)] at h
  exact h
theorem rd_slice {α : Type} {d : Kd α} {e : TypeId} (ht : Try.prog.underlying t = some (.slice e)) (hc : Try.prog.cellsOf e = d.sz) (hd : ∀ j, j < n → Rd enc W d e j) : Rd enc W (Kd.slice e d) t n := fun cs x h => by
  rcases DataW.trod_slice ht h with ⟨rfl, _⟩ | ⟨a, len, cap, elems, rest, m, rfl, rfl, _, _, hl, hm, hlen, hel, _, _⟩
  · exact ⟨[], none, 0, rfl, Nat.le_refl _, Kd.C_nil _ _⟩
  · have each : ∀ i, i < len → ∃ (p : α) (c : List Value), d.K W p c ∧ W.cells? 0 (a.add (i * d.sz)) d.sz = some c := by
      intro i hi
      have h1 := hel i hi
      rw [List.getElem?_eq_getElem (by omega), hc, Option.bind_eq_some_iff] at h1
      obtain ⟨c, hc1, hc2⟩ := h1
      obtain ⟨p, hp⟩ := hd m (by omega) _ _ hc2
      exact ⟨p, c, hp, hc1⟩
    let xs : List α := List.ofFn (fun i : Fin len => (each i.1 i.2).choose)
    have hxs : xs.length = len := List.length_ofFn
    refine ⟨xs, some a, cap, by rw [hxs], by rw [hxs]; exact hl, rfl, by rw [hxs]; simp only [maxLen] at hm; omega, fun _ => ⟨a, rfl, fun j p hj => ?_⟩⟩
    have hjl : j < len := by have := (List.getElem?_eq_some_iff.1 hj).1; omega
    have hp : p = (each j hjl).choose := by
      have h2 := (List.getElem?_eq_some_iff.1 hj).2
      rw [← h2]
      show (List.ofFn _)[j] = _
      rw [List.getElem_ofFn]
    obtain ⟨c, hK, hcell⟩ := (each j hjl).choose_spec
    rw [← hp] at hK
    refine ⟨c, d.K_len hK, hK, fun i u hu => ?_⟩
    have hi : i < d.sz := by have := (List.getElem?_eq_some_iff.1 hu).1; have h3 := d.K_len hK; omega
    unfold World.cells? at hcell
    rw [if_pos (Nat.zero_le _)] at hcell
    have h4 := mapM_some_get hcell i i (by simp [hi])
    rw [Addr.add_add] at h4
    exact h4.trans hu
end
section
variable {H : Type} {enc : TypeId × Value → H} {W : World}
theorem rd185 : ∀ n, Rd enc W k185 185 n := by
  intro n
  intro cs x h
  obtain ⟨m, rfl, hl, hf⟩ := rd_fields Try.underlying185 h
  rw [show Try.prog.cellsOf 185 = 2 by kernel_rfl] at hl
  have g0 : ∃ a, Kd.string.K W a ((cs.drop 0).take 1) := rd_at (by kernel_rfl) (rd_string Try.underlying9) (hf 0 _ rfl)
  have g1 : ∃ a, Kd.string.K W a ((cs.drop 1).take 1) := rd_at (by kernel_rfl) (rd_string Try.underlying9) (hf 1 _ rfl)
  obtain ⟨c, hc⟩ := rd_all hl (rd_pair g0 g1)
  exact ⟨⟨c.1, c.2⟩, hc⟩
theorem fold188 {x : S188} {cs : List Value} (h : (F188 k188).K W x cs) : k188.K W x cs := by
  obtain ⟨_, _, rfl, rfl, ⟨_, _, rfl, rfl, ⟨_, _, rfl, ⟨A2, c2, rfl, l2, g2⟩, ⟨_, _, rfl, rfl, rfl⟩⟩⟩⟩ := h
  exact k188_mk W x l2 g2
theorem rd188 : ∀ n, Rd enc W k188 188 n := by
  intro n
  induction n using Nat.strongRecOn with
  | _ n ih =>
  intro cs x h
  obtain ⟨m, rfl, hl, hf⟩ := rd_fields Try.underlying188 h
  rw [show Try.prog.cellsOf 188 = 5 by kernel_rfl] at hl
  have g0 : ∃ a, (Kd.int .i64).K W a ((cs.drop 0).take 1) := rd_at (by kernel_rfl) (rd_int Try.underlying3) (hf 0 _ rfl)
  have g1 : ∃ a, Kd.string.K W a ((cs.drop 1).take 1) := rd_at (by kernel_rfl) (rd_string Try.underlying9) (hf 1 _ rfl)
  have g2 : ∃ a, (Kd.slice 188 k188).K W a ((cs.drop 2).take 1) := rd_at (by kernel_rfl) (rd_slice Try.underlying62 (by kernel_rfl) (fun j hj => ih j (by omega))) (hf 2 _ rfl)
  have g3 : ∃ a, Kd.bool.K W a ((cs.drop 3).take 1) := rd_at (by kernel_rfl) (rd_bool Try.underlying4) (hf 3 _ rfl)
  have g4 : ∃ a, Kd.bool.K W a ((cs.drop 4).take 1) := rd_at (by kernel_rfl) (rd_bool Try.underlying4) (hf 4 _ rfl)
  obtain ⟨c, hc⟩ := rd_all hl (rd_pair g0 (rd_pair g1 (rd_pair g2 (rd_pair g3 g4))))
  exact ⟨⟨c.1, c.2.1, c.2.2.1, c.2.2.2.1, c.2.2.2.2⟩, fold188 hc⟩
theorem rd198 : ∀ n, Rd enc W k198 198 n := by
  intro n
  intro cs x h
  obtain ⟨m, rfl, hl, hf⟩ := rd_fields Try.underlying198 h
  rw [show Try.prog.cellsOf 198 = 2 by kernel_rfl] at hl
  have g0 : ∃ a, Kd.string.K W a ((cs.drop 0).take 1) := rd_at (by kernel_rfl) (rd_string Try.underlying9) (hf 0 _ rfl)
  have g1 : ∃ a, Kd.string.K W a ((cs.drop 1).take 1) := rd_at (by kernel_rfl) (rd_string Try.underlying9) (hf 1 _ rfl)
  obtain ⟨c, hc⟩ := rd_all hl (rd_pair g0 g1)
  exact ⟨⟨c.1, c.2⟩, hc⟩
theorem rd65 : ∀ n, Rd enc W k65 65 n := by
  intro n
  intro cs x h
  obtain ⟨m, rfl, hl, hf⟩ := rd_fields Try.underlying65 h
  rw [show Try.prog.cellsOf 65 = 6 by kernel_rfl] at hl
  have g0 : ∃ a, Kd.string.K W a ((cs.drop 0).take 1) := rd_at (by kernel_rfl) (rd_string Try.underlying9) (hf 0 _ rfl)
  have g1 : ∃ a, (Kd.slice 188 k188).K W a ((cs.drop 1).take 1) := rd_at (by kernel_rfl) (rd_slice Try.underlying62 (by kernel_rfl) (fun j hj => rd188 j)) (hf 1 _ rfl)
  have g2 : ∃ a, (Kd.slice 198 k198).K W a ((cs.drop 2).take 1) := rd_at (by kernel_rfl) (rd_slice Try.underlying63 (by kernel_rfl) (fun j hj => rd198 j)) (hf 2 _ rfl)
  have g3 : ∃ a, (Kd.slice 9 Kd.string).K W a ((cs.drop 3).take 1) := rd_at (by kernel_rfl) (rd_slice Try.underlying25 (by kernel_rfl) (fun j hj => rd_string Try.underlying9)) (hf 3 _ rfl)
  have g4 : ∃ a, (Kd.slice 9 Kd.string).K W a ((cs.drop 4).take 1) := rd_at (by kernel_rfl) (rd_slice Try.underlying25 (by kernel_rfl) (fun j hj => rd_string Try.underlying9)) (hf 4 _ rfl)
  have g5 : ∃ a, (Kd.slice 9 Kd.string).K W a ((cs.drop 5).take 1) := rd_at (by kernel_rfl) (rd_slice Try.underlying25 (by kernel_rfl) (fun j hj => rd_string Try.underlying9)) (hf 5 _ rfl)
  obtain ⟨c, hc⟩ := rd_all hl (rd_pair g0 (rd_pair g1 (rd_pair g2 (rd_pair g3 (rd_pair g4 g5)))))
  exact ⟨⟨c.1, c.2.1, c.2.2.1, c.2.2.2.1, c.2.2.2.2.1, c.2.2.2.2.2⟩, hc⟩
theorem rd201 : ∀ n, Rd enc W k201 201 n := by
  intro n
  intro cs x h
  obtain ⟨m, rfl, hl, hf⟩ := rd_fields Try.underlying201 h
  rw [show Try.prog.cellsOf 201 = 6 by kernel_rfl] at hl
  have g0 : ∃ a, Kd.string.K W a ((cs.drop 0).take 1) := rd_at (by kernel_rfl) (rd_string Try.underlying9) (hf 0 _ rfl)
  have g1 : ∃ a, k188.K W a ((cs.drop 1).take 5) := rd_at (by kernel_rfl) (rd188 m) (hf 1 _ rfl)
  obtain ⟨c, hc⟩ := rd_all hl (rd_pair g0 g1)
  exact ⟨⟨c.1, c.2⟩, hc⟩
theorem fold194 {x : S194} {cs : List Value} (h : (F194 k194).K W x cs) : k194.K W x cs := by
  obtain ⟨_, _, rfl, rfl, ⟨_, _, rfl, rfl, ⟨_, _, rfl, rfl, ⟨A3, c3, rfl, l3, g3⟩⟩⟩⟩ := h
  exact k194_mk W x l3 g3
theorem rd194 : ∀ n, Rd enc W k194 194 n := by
  intro n
  induction n using Nat.strongRecOn with
  | _ n ih =>
  intro cs x h
  obtain ⟨m, rfl, hl, hf⟩ := rd_fields Try.underlying194 h
  rw [show Try.prog.cellsOf 194 = 4 by kernel_rfl] at hl
  have g0 : ∃ a, (Kd.int .i64).K W a ((cs.drop 0).take 1) := rd_at (by kernel_rfl) (rd_int Try.underlying3) (hf 0 _ rfl)
  have g1 : ∃ a, Kd.string.K W a ((cs.drop 1).take 1) := rd_at (by kernel_rfl) (rd_string Try.underlying9) (hf 1 _ rfl)
  have g2 : ∃ a, (Kd.int .i64).K W a ((cs.drop 2).take 1) := rd_at (by kernel_rfl) (rd_int Try.underlying3) (hf 2 _ rfl)
  have g3 : ∃ a, (Kd.slice 194 k194).K W a ((cs.drop 3).take 1) := rd_at (by kernel_rfl) (rd_slice Try.underlying192 (by kernel_rfl) (fun j hj => ih j (by omega))) (hf 3 _ rfl)
  obtain ⟨c, hc⟩ := rd_all hl (rd_pair g0 (rd_pair g1 (rd_pair g2 g3)))
  exact ⟨⟨c.1, c.2.1, c.2.2.1, c.2.2.2⟩, fold194 hc⟩
theorem rd196 : ∀ n, Rd enc W k196 196 n := by
  intro n
  intro cs x h
  obtain ⟨m, rfl, hl, hf⟩ := rd_fields Try.underlying196 h
  rw [show Try.prog.cellsOf 196 = 5 by kernel_rfl] at hl
  have g0 : ∃ a, Kd.string.K W a ((cs.drop 0).take 1) := rd_at (by kernel_rfl) (rd_string Try.underlying9) (hf 0 _ rfl)
  have g1 : ∃ a, k194.K W a ((cs.drop 1).take 4) := rd_at (by kernel_rfl) (rd194 m) (hf 1 _ rfl)
  obtain ⟨c, hc⟩ := rd_all hl (rd_pair g0 g1)
  exact ⟨⟨c.1, c.2⟩, hc⟩
theorem fold203 {x : S203} {cs : List Value} (h : (F203 k203).K W x cs) : k203.K W x cs := by
  obtain ⟨_, _, rfl, rfl, ⟨_, _, rfl, rfl, ⟨_, _, rfl, rfl, ⟨_, _, rfl, ⟨A3, c3, rfl, l3, g3⟩, ⟨_, _, rfl, ⟨A4, c4, rfl, l4, g4⟩, ⟨_, _, rfl, ⟨A5, c5, rfl, l5, g5⟩, ⟨_, _, rfl, ⟨A6, c6, rfl, l6, g6⟩, ⟨A7, c7, rfl, l7, g7⟩⟩⟩⟩⟩⟩⟩⟩ := h
  exact k203_mk W x l3 g3 l4 g4 l5 g5 l6 g6 l7 g7
theorem rd203 : ∀ n, Rd enc W k203 203 n := by
  intro n
  induction n using Nat.strongRecOn with
  | _ n ih =>
  intro cs x h
  obtain ⟨m, rfl, hl, hf⟩ := rd_fields Try.underlying203 h
  rw [show Try.prog.cellsOf 203 = 8 by kernel_rfl] at hl
  have g0 : ∃ a, (Kd.int .i64).K W a ((cs.drop 0).take 1) := rd_at (by kernel_rfl) (rd_int Try.underlying3) (hf 0 _ rfl)
  have g1 : ∃ a, Kd.string.K W a ((cs.drop 1).take 1) := rd_at (by kernel_rfl) (rd_string Try.underlying9) (hf 1 _ rfl)
  have g2 : ∃ a, (Kd.int .i64).K W a ((cs.drop 2).take 1) := rd_at (by kernel_rfl) (rd_int Try.underlying3) (hf 2 _ rfl)
  have g3 : ∃ a, (Kd.slice 194 k194).K W a ((cs.drop 3).take 1) := rd_at (by kernel_rfl) (rd_slice Try.underlying192 (by kernel_rfl) (fun j hj => rd194 j)) (hf 3 _ rfl)
  have g4 : ∃ a, (Kd.slice 196 k196).K W a ((cs.drop 4).take 1) := rd_at (by kernel_rfl) (rd_slice Try.underlying59 (by kernel_rfl) (fun j hj => rd196 j)) (hf 4 _ rfl)
  have g5 : ∃ a, (Kd.slice 203 k203).K W a ((cs.drop 5).take 1) := rd_at (by kernel_rfl) (rd_slice Try.underlying189 (by kernel_rfl) (fun j hj => ih j (by omega))) (hf 5 _ rfl)
  have g6 : ∃ a, (Kd.slice 203 k203).K W a ((cs.drop 6).take 1) := rd_at (by kernel_rfl) (rd_slice Try.underlying189 (by kernel_rfl) (fun j hj => ih j (by omega))) (hf 6 _ rfl)
  have g7 : ∃ a, (Kd.slice 203 k203).K W a ((cs.drop 7).take 1) := rd_at (by kernel_rfl) (rd_slice Try.underlying189 (by kernel_rfl) (fun j hj => ih j (by omega))) (hf 7 _ rfl)
  obtain ⟨c, hc⟩ := rd_all hl (rd_pair g0 (rd_pair g1 (rd_pair g2 (rd_pair g3 (rd_pair g4 (rd_pair g5 (rd_pair g6 g7)))))))
  exact ⟨⟨c.1, c.2.1, c.2.2.1, c.2.2.2.1, c.2.2.2.2.1, c.2.2.2.2.2.1, c.2.2.2.2.2.2.1, c.2.2.2.2.2.2.2⟩, fold203 hc⟩
theorem rd191 : ∀ n, Rd enc W k191 191 n := by
  intro n
  intro cs x h
  obtain ⟨m, rfl, hl, hf⟩ := rd_fields Try.underlying191 h
  rw [show Try.prog.cellsOf 191 = 15 by kernel_rfl] at hl
  have g0 : ∃ a, (Kd.int .i64).K W a ((cs.drop 0).take 1) := rd_at (by kernel_rfl) (rd_int Try.underlying3) (hf 0 _ rfl)
  have g1 : ∃ a, Kd.string.K W a ((cs.drop 1).take 1) := rd_at (by kernel_rfl) (rd_string Try.underlying9) (hf 1 _ rfl)
  have g2 : ∃ a, (Kd.slice 9 Kd.string).K W a ((cs.drop 2).take 1) := rd_at (by kernel_rfl) (rd_slice Try.underlying25 (by kernel_rfl) (fun j hj => rd_string Try.underlying9)) (hf 2 _ rfl)
  have g3 : ∃ a, (Kd.slice 201 k201).K W a ((cs.drop 3).take 1) := rd_at (by kernel_rfl) (rd_slice Try.underlying186 (by kernel_rfl) (fun j hj => rd201 j)) (hf 3 _ rfl)
  have g4 : ∃ a, k188.K W a ((cs.drop 4).take 5) := rd_at (by kernel_rfl) (rd188 m) (hf 4 _ rfl)
  have g5 : ∃ a, (Kd.slice 201 k201).K W a ((cs.drop 9).take 1) := rd_at (by kernel_rfl) (rd_slice Try.underlying186 (by kernel_rfl) (fun j hj => rd201 j)) (hf 5 _ rfl)
  have g6 : ∃ a, (Kd.slice 196 k196).K W a ((cs.drop 10).take 1) := rd_at (by kernel_rfl) (rd_slice Try.underlying59 (by kernel_rfl) (fun j hj => rd196 j)) (hf 6 _ rfl)
  have g7 : ∃ a, (Kd.slice 196 k196).K W a ((cs.drop 11).take 1) := rd_at (by kernel_rfl) (rd_slice Try.underlying59 (by kernel_rfl) (fun j hj => rd196 j)) (hf 7 _ rfl)
  have g8 : ∃ a, (Kd.slice 203 k203).K W a ((cs.drop 12).take 1) := rd_at (by kernel_rfl) (rd_slice Try.underlying189 (by kernel_rfl) (fun j hj => rd203 j)) (hf 8 _ rfl)
  have g9 : ∃ a, (Kd.slice 203 k203).K W a ((cs.drop 13).take 1) := rd_at (by kernel_rfl) (rd_slice Try.underlying189 (by kernel_rfl) (fun j hj => rd203 j)) (hf 9 _ rfl)
  have g10 : ∃ a, Kd.bool.K W a ((cs.drop 14).take 1) := rd_at (by kernel_rfl) (rd_bool Try.underlying4) (hf 10 _ rfl)
  obtain ⟨c, hc⟩ := rd_all hl (rd_pair g0 (rd_pair g1 (rd_pair g2 (rd_pair g3 (rd_pair g4 (rd_pair g5 (rd_pair g6 (rd_pair g7 (rd_pair g8 (rd_pair g9 g10))))))))))
  exact ⟨⟨c.1, c.2.1, c.2.2.1, c.2.2.2.1, c.2.2.2.2.1, c.2.2.2.2.2.1, c.2.2.2.2.2.2.1, c.2.2.2.2.2.2.2.1, c.2.2.2.2.2.2.2.2.1, c.2.2.2.2.2.2.2.2.2.1, c.2.2.2.2.2.2.2.2.2.2⟩, hc⟩
theorem rd61 : ∀ n, Rd enc W k61 61 n := by
  intro n
  intro cs x h
  obtain ⟨m, rfl, hl, hf⟩ := rd_fields Try.underlying61 h
  rw [show Try.prog.cellsOf 61 = 7 by kernel_rfl] at hl
  have g0 : ∃ a, Kd.string.K W a ((cs.drop 0).take 1) := rd_at (by kernel_rfl) (rd_string Try.underlying9) (hf 0 _ rfl)
  have g1 : ∃ a, Kd.bool.K W a ((cs.drop 1).take 1) := rd_at (by kernel_rfl) (rd_bool Try.underlying4) (hf 1 _ rfl)
  have g2 : ∃ a, (Kd.slice 185 k185).K W a ((cs.drop 2).take 1) := rd_at (by kernel_rfl) (rd_slice Try.underlying56 (by kernel_rfl) (fun j hj => rd185 j)) (hf 2 _ rfl)
  have g3 : ∃ a, (Kd.slice 65 k65).K W a ((cs.drop 3).take 1) := rd_at (by kernel_rfl) (rd_slice Try.underlying57 (by kernel_rfl) (fun j hj => rd65 j)) (hf 3 _ rfl)
  have g4 : ∃ a, (Kd.slice 9 Kd.string).K W a ((cs.drop 4).take 1) := rd_at (by kernel_rfl) (rd_slice Try.underlying25 (by kernel_rfl) (fun j hj => rd_string Try.underlying9)) (hf 4 _ rfl)
  have g5 : ∃ a, (Kd.slice 191 k191).K W a ((cs.drop 5).take 1) := rd_at (by kernel_rfl) (rd_slice Try.underlying58 (by kernel_rfl) (fun j hj => rd191 j)) (hf 5 _ rfl)
  have g6 : ∃ a, (Kd.slice 196 k196).K W a ((cs.drop 6).take 1) := rd_at (by kernel_rfl) (rd_slice Try.underlying59 (by kernel_rfl) (fun j hj => rd196 j)) (hf 6 _ rfl)
  obtain ⟨c, hc⟩ := rd_all hl (rd_pair g0 (rd_pair g1 (rd_pair g2 (rd_pair g3 (rd_pair g4 (rd_pair g5 g6))))))
  exact ⟨⟨c.1, c.2.1, c.2.2.1, c.2.2.2.1, c.2.2.2.2.1, c.2.2.2.2.2.1, c.2.2.2.2.2.2⟩, hc⟩
theorem trod_classes {d : DataW H} {p : List MemPlace} {A : Option Addr} {len cap : Nat} (h : DataW.Trod enc Try.prog W 0 (fun _ => true) true 22 (.slice A len cap) d p) : ∃ l : List S61, len = l.length ∧ len ≤ cap ∧ k61.C W A l.length l := by
  obtain ⟨n, hn⟩ := h
  obtain ⟨l, A', c, he, hl, hC⟩ := rd_slice (n := n) Try.underlying22 (by kernel_rfl) (fun j _ => rd61 (enc := enc) (W := W) j) _ _ hn
  injection he with he _
  injection he with h1 h2 h3
  subst h1; subst h2; subst h3
  exact ⟨l, rfl, hl, hC⟩
theorem trod_strings {d : DataW H} {p : List MemPlace} {A : Option Addr} {len cap : Nat} {t : TypeId} (ht : Try.prog.underlying t = some (.slice 9)) (h : DataW.Trod enc Try.prog W 0 (fun _ => true) true t (.slice A len cap) d p) : ∃ l : List ByteArray, len = l.length ∧ len ≤ cap ∧ Kd.string.C W A l.length l := by
  obtain ⟨n, hn⟩ := h
  obtain ⟨l, A', c, he, hl, hC⟩ := rd_slice (n := n) ht (by kernel_rfl) (fun j _ => rd_string Try.underlying9) _ _ hn
  injection he with he _
  injection he with h1 h2 h3
  subst h1; subst h2; subst h3
  exact ⟨l, rfl, hl, hC⟩
end
end Go.Proofs.Ytdljclokenoogaa.Hw
end
section
namespace Go.Proofs.Ytdljclokenoogaa.Hw
open Go.RowKit Go.Proofs.Ytdljclokenoogaa.Hp Go.Proofs.YtdljclokenoogaaW.PrintWords Go.Proofs.YtdljclokenoogaaW.PrintLast Go.Proofs.YtdljclokenoogaaW.PrintMore
section
variable {H : Type} {enc : TypeId × Value → H} {W : World}
theorem weights_all {P : Program} {e : TypeId} : ∀ {ds : List (DataW H)} {i : Nat} {d : DataW H}, ds[i]? = some d → ∀ n ∈ d.weights P e, n ∈ DataW.weightsAll P e ds
  | [], i, d, h => by simp at h
  | x :: ds, 0, d, h => by
    intro n hn
    simp only [List.getElem?_cons_zero, Option.some.injEq] at h
    subst h
    simp only [DataW.weightsAll, List.mem_append]
    exact .inl hn
  | x :: ds, i + 1, d, h => by
    intro n hn
    simp only [List.getElem?_cons_succ] at h
    simp only [DataW.weightsAll, List.mem_append]
    exact .inr (weights_all h n hn)
theorem weights_slice {P : Program} {t e : TypeId} (ht : P.underlying t = some (.slice e)) (xs ys : List (DataW H)) : (DataW.slice xs ys).weights P t = (xs.length + ys.length) * P.bytesOf e :: (DataW.weightsAll P e xs ++ DataW.weightsAll P e ys) := by
  rw [DataW.weights, ht]
theorem weights_agg {P : Program} {t : TypeId} {fs : Array Field} (ht : P.underlying t = some (.struct fs)) (xs : List (DataW H)) : (DataW.agg xs).weights P t = DataW.weightsEach P (fs.toList.map (·.type)) xs := by
  rw [DataW.weights, ht]
theorem slice_weight {P : Program} {t e : TypeId} {cs : List Value} {n : Nat} {x : DataW H × List MemPlace} {A : Option Addr} {len cap : Nat} (ht : P.underlying t = some (.slice e)) (hcs : cs = [.slice A len cap]) (h : DataW.trod enc P W 0 (fun _ => true) true n t cs = some x)
    (hw : ∀ m ∈ x.1.weights P t, m ≤ reachBytes) : len * P.bytesOf e ≤ reachBytes := by
  subst hcs
  rcases DataW.trod_slice ht h with ⟨h1, _⟩ | ⟨a, len', cap', elems, rest, m, rfl, h1, rfl, _, _, _, hlen, _, _, _⟩
  · injection h1 with h1 _
    injection h1 with _ h2 _
    subst h2; simp
  · injection h1 with h1 _
    injection h1 with _ h2 _
    subst h2
    rw [weights_slice ht] at hw
    have hw' := hw _ (List.mem_cons_self ..)
    rw [List.length_map, List.length_map] at hw'
    exact Nat.le_trans (Nat.mul_le_mul_right _ (by omega)) hw'
theorem class_weight {cs : List Value} {n : Nat} {x : DataW H × List MemPlace} {a : S61} (ha : k61.K W a cs) (h : DataW.trod enc Try.prog W 0 (fun _ => true) true n 61 cs = some x)
    (hw : ∀ m ∈ x.1.weights Try.prog 61, m ≤ reachBytes) : a.f3.length ≤ 1100000000000 := by
  obtain ⟨xs, m, rfl, rfl, _, hl, hf⟩ := DataW.trod_struct Try.underlying61 h
  obtain ⟨A2, c2, A3, c3, A4, c4, A5, c5, A6, c6, rfl, _⟩ := k61_open ha
  have h3 := hf 3 _ rfl
  obtain ⟨y, hy⟩ : ∃ y, xs[3]? = some y := ⟨_, List.getElem?_eq_getElem (by rw [hl]; decide)⟩
  rw [hy] at h3
  have e3 : Try.prog.cellsOf 57 = 1 := by kernel_rfl
  have h4 := slice_weight (enc := enc) (W := W) (e := 65) Try.underlying57 (show ((([.string a.f0, .bool a.f1, .slice A2 a.f2.length c2, .slice A3 a.f3.length c3, .slice A4 a.f4.length c4, .slice A5 a.f5.length c5, .slice A6 a.f6.length c6] : List Value).drop 3).take (Try.prog.cellsOf 57)) = [.slice A3 a.f3.length c3] by rw [e3]; rfl) h3 (fun k hk => by
    refine hw k ?_
    rw [weights_agg Try.underlying61]
    exact DataW.weights_mem_each (j := 3) (t := 57) rfl (by rw [List.getElem?_map, hy]; rfl) k hk)
  rw [show Try.prog.bytesOf 65 = 136 by kernel_rfl] at h4
  unfold reachBytes at h4
  omega
theorem trod_classesS {ts : List TypeId} {ds : List (DataW H)} {j : Nat} {d : DataW H} {p : List MemPlace} {A : Option Addr} {len cap : Nat} (hsz : (DataW.weightsEach Try.prog ts ds).all (· ≤ reachBytes) = true) (ht : ts[j]? = some 22) (hd : ds[j]? = some d)
    (h : DataW.Trod enc Try.prog W 0 (fun _ => true) true 22 (.slice A len cap) d p) : ∃ l : List S61, len = l.length ∧ len ≤ cap ∧ k61.C W A l.length l ∧ ∀ x ∈ l, x.f3.length ≤ 1100000000000 := by
  obtain ⟨l, rfl, hc, hC⟩ := trod_classes h
  refine ⟨l, rfl, hc, hC, ?_⟩
  obtain ⟨n, hn⟩ := h
  have hw : ∀ m ∈ d.weights Try.prog 22, m ≤ reachBytes := fun m hm => by
    have := List.all_eq_true.1 hsz m (DataW.weights_mem_each ht hd m hm)
    simpa using this
  intro x hx
  obtain ⟨i, hi, rfl⟩ := List.mem_iff_getElem.1 hx
  have e7 : Try.prog.cellsOf 61 = 7 := by kernel_rfl
  rcases DataW.trod_slice Try.underlying22 hn with ⟨h1, _⟩ | ⟨a, len', cap', elems, rest, m, rfl, h1, h2, _, _, _, hlen, hel, _, _⟩
  · injection h1 with h1 _
    injection h1 with _ h2 _
    omega
  · injection h1 with h1 _
    injection h1 with h5 h6 h7
    subst h5; subst h6; subst h7
    have he := hel i hi
    obtain ⟨y, hy⟩ : ∃ y, elems[i]? = some y := ⟨_, List.getElem?_eq_getElem (by omega)⟩
    rw [hy, Option.bind_eq_some_iff] at he
    obtain ⟨c, hc1, hc2⟩ := he
    obtain ⟨ad, c', e, hl', hK, hcell⟩ := Kd.C_get hC z61 (i : Int) (by omega) (by omega)
    have hcc : c = c' := by
      cases e
      have hs : k61.sz = 7 := rfl
      unfold World.cells? at hc1
      rw [if_pos (Nat.zero_le _), e7] at hc1
      have hlc : c.length = 7 := by simpa using mapM_some_length hc1
      have hlc' : c'.length = 7 := k61.K_len hK
      refine List.ext_getElem? (fun q => ?_)
      rcases Nat.lt_or_ge q 7 with hq | hq
      · have h8 := mapM_some_get hc1 q q (by simp [hq])
        have h9 := hcell q (c'[q]'(by omega)) (List.getElem?_eq_getElem (by omega))
        rw [List.getElem?_eq_getElem (show q < c'.length by omega), ← h8]
        rw [Addr.add_add]
        simpa [hs] using h9
      · rw [List.getElem?_eq_none (by omega), List.getElem?_eq_none (by omega)]
    rw [← hcc] at hK
    have ex : (l.getD (i : Int).toNat z61) = l[i] := by simp [List.getD_eq_getElem?_getD, hi]
    rw [ex] at hK
    refine class_weight (enc := enc) hK hc2 (fun k hk => hw k ?_)
    have h2' := congrArg Prod.fst h2
    simp only at h2'
    rw [h2']
    rw [weights_slice Try.underlying22, List.mem_cons, List.mem_append]
    exact .inr (.inl (weights_all (i := i) (by rw [List.getElem?_map, hy]; rfl) k hk))
end
end Go.Proofs.Ytdljclokenoogaa.Hw
end
