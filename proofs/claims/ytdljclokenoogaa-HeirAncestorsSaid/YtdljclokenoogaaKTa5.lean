/-
  Part 5 (Ta) of the proof: walks of functions and plain facts.
-/
import Derived.Lib.SpaceUEq
import Derived.Lib.TrimUEq
import Derived.ChangeArms
import Derived.ChangeSlices
import Derived.SizedLaws
import Derived.Test.YtdljclokenoogaaRows
import Derived.WalkKit
import Derived.ProofKit
import Derived.OpenShut
import Derived.ShutString
import Derived.ChangeOld
import Derived.Below
import Derived.Test.YtdljclokenoogaaKTa4
set_option linter.unusedVariables false
set_option linter.unusedSimpArgs false
set_option linter.unusedSectionVars false
section
namespace Go.Proofs.Ytdljclokenoogaa.Hw
open Go.RowKit Go.Proofs.Ytdljclokenoogaa.Hp Go.Proofs.YtdljclokenoogaaW.PrintWords Go.Proofs.YtdljclokenoogaaW.PrintLast Go.Proofs.YtdljclokenoogaaW.PrintMore
def okB (b : Nat) : Bool := (decide (65 ≤ b) && decide (b ≤ 90)) || (decide (48 ≤ b) && decide (b ≤ 57)) || decide (b = 95)
theorem oddR_ok (b : Nat) : oddR b = !okB b := by
  rw [Bool.eq_iff_iff]
  simp [oddR, okB]
  try omega
def byteN (s : ByteArray) (j : Nat) : Nat := (s.data.getD j 0).toNat
theorem byteN_list (s : ByteArray) (j : Nat) : (s.data.toList.getD j 0).toNat = byteN s j := by
  unfold byteN
  rw [Array.getD_eq_getD_getElem?, List.getD_eq_getElem?_getD, Array.getElem?_toList]
theorem bt_nat (s : ByteArray) (j : Nat) (h : j < s.size) : bt s (j : Int) = (byteN s j : Int) := by
  rw [← bt_at s (j : Int) (by simpa using h)]
  unfold byteN
  have h' : j < s.data.size := h
  rw [Array.getD_eq_getD_getElem?, Array.getElem?_eq_getElem h']
  rfl
theorem decode_big (n b0 b1 b2 b3 : Nat) (h : 128 ≤ b0) : 128 ≤ (Lib.decodeN n b0 b1 b2 b3).1 := by
  rcases Lib.decodeN_cases n b0 b1 b2 b3 with ⟨h1, _⟩ | ⟨_, _, _, h1, h2⟩ | ⟨_, _, _, _, h1, h2⟩ | ⟨h1, _⟩ | h2
  · omega
  · rw [h2]; exact h1
  · rw [h2]; show 128 ≤ _; omega
  · omega
  · rw [h2]; decide
theorem oddFrom_iff (s : ByteArray) : ∀ (f pos : Nat), s.size ≤ pos + f → (oddFrom s f pos < 0 ↔ ∀ j, pos ≤ j → j < s.size → okB (byteN s j) = true)
  | 0, pos, h => ⟨fun _ j h1 h2 => by omega, fun _ => by simp [oddFrom]⟩
  | f + 1, pos, h => by
    unfold oddFrom
    by_cases hp : pos < s.size
    · rw [if_pos hp]
      have hd := Lib.decode_N s pos
      rw [byteN_list] at hd
      by_cases hb : byteN s pos < 128
      · rw [Lib.decodeN_ascii _ _ _ _ _ hb] at hd
        rw [hd]
        have ih := oddFrom_iff s f (pos + 1) (by omega)
        simp only [oddR_ok]
        cases hok : okB (byteN s pos) with
        | false =>
          simp only [Bool.not_false, if_true]
          exact ⟨fun h => by omega, fun h => by have := h pos (Nat.le_refl _) hp; rw [hok] at this; cases this⟩
        | true =>
          simp only [Bool.not_true, Bool.false_eq_true, if_false]
          rw [ih]
          refine ⟨fun h j h1 h2 => ?_, fun h j h1 h2 => h j (by omega) h2⟩
          rcases Nat.eq_or_lt_of_le h1 with rfl | h3
          · exact hok
          · exact h j h3 h2
      · have hbig := decode_big (s.data.toList.length - pos) (byteN s pos) (s.data.toList.getD (pos + 1) 0).toNat (s.data.toList.getD (pos + 2) 0).toNat (s.data.toList.getD (pos + 3) 0).toNat (by omega)
        rw [← hd] at hbig
        have hodd : oddR (Utf8.decode s pos).1 = true := by
          rw [oddR_ok]
          simp [okB]
          omega
        rw [if_pos hodd]
        refine ⟨fun h => by omega, fun h => ?_⟩
        have := h pos (Nat.le_refl _) hp
        simp [okB] at this
        omega
    · rw [if_neg hp]
      exact ⟨fun _ j h1 h2 => by omega, fun _ => by decide⟩
theorem reserved_val (s : ByteArray) : cosignerref03_reserved.f s = some (memS keptNames s) := by
  unfold cosignerref03_reserved.f
  have k : ∀ (a : ByteArray) (x : List UInt8), a.toList = x → (s.toList = x ↔ s = a) := fun a x h => by rw [← h]; exact toList_eq_iff
  have k1 := k ⟨#[73, 78, 84, 69, 71, 69, 82]⟩ [73, 78, 84, 69, 71, 69, 82] (by rw [Lib.toList_data])
  have k2 := k ⟨#[66, 79, 79, 76, 69, 65, 78]⟩ [66, 79, 79, 76, 69, 65, 78] (by rw [Lib.toList_data])
  have k3 := k ⟨#[65, 78, 89]⟩ [65, 78, 89] (by rw [Lib.toList_data])
  have k4 := k ⟨#[78, 79, 78, 69]⟩ [78, 79, 78, 69] (by rw [Lib.toList_data])
  have e4 : (s.toList == [78, 79, 78, 69]) = decide (s = ⟨#[78, 79, 78, 69]⟩) := by
    rw [Bool.eq_iff_iff, beq_iff_eq, decide_eq_true_iff]; exact k4
  rw [e4]
  simp only [k1, k2, k3, memS, keptNames, List.any_cons, List.any_nil, Bool.or_false]
  by_cases h1 : s = ⟨#[73, 78, 84, 69, 71, 69, 82]⟩
  · rw [if_pos h1]; simp [h1]
  · by_cases h2 : s = ⟨#[66, 79, 79, 76, 69, 65, 78]⟩
    · rw [if_neg h1, if_pos h2]; simp [h2]
    · by_cases h3 : s = ⟨#[65, 78, 89]⟩
      · rw [if_neg h1, if_neg h2, if_pos h3]; simp [h3]
      · rw [if_neg h1, if_neg h2, if_neg h3]; simp [h1, h2, h3]
theorem named_l0 (s : ByteArray) (hs : s.size ≤ 20) : ∀ (d i k : Nat), s.size - i = d → i ≤ s.size → d < k → cosignerref03_named.l0 k s (i : Int) = some ((List.range d).all (fun j => okB (byteN s (i + j))) && !memS keptNames s) := by
  intro d
  induction d with
  | zero =>
    intro i k hd hi hk
    obtain ⟨k, rfl⟩ : ∃ m, k = m + 1 := ⟨k - 1, by omega⟩
    rw [cosignerref03_named.l0, if_neg (by omega), reserved_val]
    simp
  | succ d ih =>
    intro i k hd hi hk
    obtain ⟨k, rfl⟩ : ∃ m, k = m + 1 := ⟨k - 1, by omega⟩
    have hil : i < s.size := by omega
    have hn := ih (i + 1) k (by omega) hil (by omega)
    have hsplit : (List.range (d + 1)).all (fun j => okB (byteN s (i + j))) = (okB (byteN s i) && (List.range d).all (fun j => okB (byteN s (i + 1 + j)))) := by
      rw [List.range_succ_eq_map, List.all_cons, List.all_map, Nat.add_zero]
      congr 1
      refine congrArg (fun f => (List.range d).all f) (funext fun j => ?_)
      simp only [Function.comp, Nat.succ_eq_add_one]
      rw [show i + (j + 1) = i + 1 + j by omega]
    rw [cosignerref03_named.l0, if_pos (by omega), if_pos (by omega), bt_nat s i hil, wrap_nat i (by omega), hn, hsplit]
    generalize (List.range d).all (fun j => okB (byteN s (i + 1 + j))) = r
    generalize memS keptNames s = m
    generalize byteN s i = b
    unfold okB
    by_cases h1 : 65 ≤ b
    · by_cases h2 : 48 ≤ b
      · by_cases h3 : b ≤ 90
        · simp [h1, h2, h3, show (b : Int) ≥ 65 by omega, show (b : Int) ≥ 48 by omega, show (b : Int) ≤ 90 by omega]
        · by_cases h4 : b = 95
          · subst h4; simp
          · simp [h1, h2, h3, h4, show (b : Int) ≥ 65 by omega, show (b : Int) ≥ 48 by omega, show ¬ (b : Int) ≤ 90 by omega, show ¬ (b : Int) ≤ 57 by omega, show ¬ (b : Int) = 95 by omega, show ¬ b ≤ 57 by omega]
      · omega
    · by_cases h2 : 48 ≤ b
      · by_cases h3 : b ≤ 57
        · simp [h1, h2, h3, show ¬ (b : Int) ≥ 65 by omega, show (b : Int) ≥ 48 by omega, show (b : Int) ≤ 57 by omega]
        · simp [h1, h2, h3, show ¬ (b : Int) ≥ 65 by omega, show (b : Int) ≥ 48 by omega, show ¬ (b : Int) ≤ 57 by omega, show ¬ (b : Int) = 95 by omega, show ¬ b = 95 by omega]
      · simp [h1, h2, show ¬ (b : Int) ≥ 65 by omega, show ¬ (b : Int) ≥ 48 by omega, show ¬ (b : Int) = 95 by omega, show ¬ b = 95 by omega]
theorem named_val (s : ByteArray) (k : Nat) (hk : 30 ≤ k) : cosignerref03_named.f k s = some (isName s) := by
  obtain ⟨k, rfl⟩ : ∃ m, k = m + 1 := ⟨k - 1, by omega⟩
  have jT : cosignerref03_named.j0 (k + 1) s true = some false := by rw [cosignerref03_named.j0, if_pos rfl]
  unfold cosignerref03_named.f isName
  by_cases h0 : s.size = 0
  · rw [if_pos (by omega), jT]; simp [h0]
  · rw [if_neg (by omega)]
    by_cases h1 : 20 < s.size
    · rw [if_pos (by omega), jT]; simp [show ¬ s.size ≤ 20 by omega]
    · rw [if_neg (by omega), if_pos (by omega)]
      have hb := bt_nat s 0 (by omega)
      rw [show ((0 : Nat) : Int) = 0 from rfl] at hb
      rw [hb]
      have h00 : (s.data.getD 0 0).toNat = byteN s 0 := rfl
      rw [h00]
      by_cases h2 : byteN s 0 < 65
      · rw [if_pos (by omega), jT]; simp [show ¬ 65 ≤ byteN s 0 by omega]
      · rw [if_neg (by omega)]
        by_cases h3 : byteN s 0 > 90
        · rw [decide_eq_true (by omega), jT]; simp [show ¬ byteN s 0 ≤ 90 by omega]
        · rw [decide_eq_false (by omega), cosignerref03_named.j0, if_neg (by decide)]
          have := named_l0 s (by omega) s.size 0 k rfl (Nat.zero_le _) (by omega)
          rw [show ((0 : Nat) : Int) = 0 from rfl] at this
          rw [this]
          have hi := oddFrom_iff s s.size 0 (by omega)
          have ha : decide (oddFrom s s.size 0 < 0) = (List.range s.size).all (fun j => okB (byteN s (0 + j))) := by
            rw [Bool.eq_iff_iff, decide_eq_true_iff, hi, List.all_eq_true]
            simp only [List.mem_range, Nat.zero_add]
            exact ⟨fun h j hj => h j (Nat.zero_le _) hj, fun h j _ hj => h j hj⟩
          rw [ha]
          simp [show 1 ≤ s.size by omega, show s.size ≤ 20 by omega, show 65 ≤ byteN s 0 by omega, show byteN s 0 ≤ 90 by omega]
end Go.Proofs.Ytdljclokenoogaa.Hw
end
section
namespace Go.Proofs.Ytdljclokenoogaa.Hw
open Go.RowKit Go.Proofs.Ytdljclokenoogaa.Hp Go.Proofs.YtdljclokenoogaaW.PrintWords Go.Proofs.YtdljclokenoogaaW.PrintLast Go.Proofs.YtdljclokenoogaaW.PrintMore
theorem asked_ok {l : List S61} (h : (checkOf l).1 = 0) {ns : List ByteArray} (hn : ∀ s ∈ ns, s ∈ names l) : askedOf l ns = 0 := by
  unfold askedOf
  rw [if_neg (by simpa using h), if_pos]
  exact List.all_eq_true.2 (fun s hs => idx_mem.2 (hn s hs))
structure Good (l : List S61) : Prop where
  ok : (checkOf l).1 = 0
  pos : 0 < l.length
section
variable {l : List S61} (h : Good l)
include h
theorem Good.small : l.length ≤ 24 := (checkOk h.ok).1
theorem Good.rank : ∃ rk : ByteArray → Nat, (∀ c p, p ∈ ups l c → rk p < rk c) ∧ ∀ c, rk c < l.length + 1 := rank_of_ring (checkOk h.ok).2.2.2
theorem Good.anc_iff {c a : ByteArray} : memS (anc l c) a = true ↔ ∃ m, reach (ups l) m c a := by
  obtain ⟨rk, hrk, hn⟩ := h.rank
  exact mem_vis hrk (hn c)
theorem Good.refl (c : ByteArray) : memS (anc l c) c = true := h.anc_iff.2 ⟨0, rfl⟩
theorem Good.trans {a b c : ByteArray} (h1 : memS (anc l a) b = true) (h2 : memS (anc l b) c = true) : memS (anc l a) c = true := by
  obtain ⟨n, hn⟩ := h.anc_iff.1 h1
  obtain ⟨m, hm⟩ := h.anc_iff.1 h2
  exact h.anc_iff.2 ⟨n + m, reach_trans hn hm⟩
theorem Good.below {c : ByteArray} (hc : c ∈ names l) : heir_Below.f l c = some ((names l).filter (fun d => memS (anc l d) c), 0) := by
  unfold heir_Below.f belowOf
  rw [if_pos (asked_ok h.ok (by simp [hc]))]
theorem Good.name (i : Int) (h0 : 0 ≤ i) (h1 : i < 256) : ∃ c ∈ names l, cosignerlaw03_name.f l i = some c := by
  have hp := h.pos
  unfold cosignerlaw03_name.f
  have hw : wrap64 i = i := wrap64_of_range i (by omega) (by omega)
  rw [hw]
  have e1 : Int.tmod i (l.length : Int) = i % (l.length : Int) := Int.tmod_eq_emod_of_nonneg h0
  have e2 : 0 ≤ i % (l.length : Int) := Int.emod_nonneg _ (by omega)
  have e3 : i % (l.length : Int) < l.length := Int.emod_lt_of_pos _ (by omega)
  rw [e1, if_neg (by omega), if_pos e2, if_pos e3]
  refine ⟨_, ?_, rfl⟩
  have e4 : (i % (l.length : Int)).toNat < l.length := by omega
  refine List.mem_map.2 ⟨rd_T61 l (i % (l.length : Int)), ?_, rfl⟩
  unfold rd_T61
  rw [List.getD_eq_getElem?_getD, List.getElem?_eq_getElem e4]
  exact List.getElem_mem _
end
end Go.Proofs.Ytdljclokenoogaa.Hw
end
section
namespace Go.Proofs.Ytdljclokenoogaa.Hw
open Go.RowKit Go.Proofs.Ytdljclokenoogaa.Hp Go.Proofs.YtdljclokenoogaaW.PrintWords Go.Proofs.YtdljclokenoogaaW.PrintLast Go.Proofs.YtdljclokenoogaaW.PrintMore
theorem idx_place {l : List S61} {k : ByteArray} {i : Nat} (h : idx l k = some i) : (names l)[i]? = some k := by
  induction l generalizing i with
  | nil => cases h
  | cons a l ih =>
    simp only [idx] at h
    split at h
    · rename_i e; cases h; simp [names, e]
    · cases hi : idx l k with
      | none => rw [hi] at h; cases h
      | some j => rw [hi] at h; cases h; simpa [names] using ih hi
theorem rd_name {l : List S61} {q : Nat} (h : q < l.length) : (names l)[q]? = some (rd_T61 l (q : Int)).f0 := by
  simp [names, rd_T61, h]
section
variable {l : List S61} (h : Good l)
include h
theorem Good.idx_at {q : Nat} (hq : q < l.length) : idx l (rd_T61 l (q : Int)).f0 = some q := by
  have hm : (rd_T61 l (q : Int)).f0 ∈ names l := List.mem_of_getElem? (rd_name hq)
  obtain ⟨i, hi⟩ := Option.isSome_iff_exists.1 (idx_mem.2 hm)
  have h1 := idx_place hi
  have hnd := checkOk_nodup (checkOk h.ok).2.1
  have h2 := rd_name hq
  have hil := idx_lt hi
  have e : i = q := by
    obtain ⟨_, e1⟩ := List.getElem?_eq_some_iff.1 h1
    obtain ⟨_, e2⟩ := List.getElem?_eq_some_iff.1 h2
    rcases Nat.lt_trichotomy i q with hlt | he | hlt
    · exact absurd (e1.trans e2.symm) (List.pairwise_iff_getElem.1 hnd i q _ _ hlt)
    · exact he
    · exact absurd (e2.trans e1.symm) (List.pairwise_iff_getElem.1 hnd q i _ _ hlt)
  rw [hi, e]
theorem Good.parents_mem {q : Nat} (hq : q < l.length) : ∀ p ∈ (rd_T61 l (q : Int)).f3, p.f0 ∈ names l := by
  intro p hp
  have h1 := (checkOk h.ok).2.2.1 q hq
  unfold lonelyOf at h1
  have h2 := List.any_eq_false.1 h1 p hp
  refine idx_mem.1 ?_
  cases hi : idx l p.f0 with
  | none => rw [hi] at h2; simp at h2
  | some _ => rfl
theorem Good.ups_at {q : Nat} (hq : q < l.length) : ups l (rd_T61 l (q : Int)).f0 = (rd_T61 l (q : Int)).f3.map (·.f0) := by
  rw [ups_some (h.idx_at hq), List.filter_eq_self]
  intro p hp
  obtain ⟨x, hx, rfl⟩ := List.mem_map.1 hp
  exact idx_mem.2 (h.parents_mem hq x hx)
end
end Go.Proofs.Ytdljclokenoogaa.Hw
end
section
namespace Go.Proofs.Ytdljclokenoogaa.Hw
open Go.RowKit Go.Proofs.Ytdljclokenoogaa.Hp Go.Proofs.YtdljclokenoogaaW.PrintWords Go.Proofs.YtdljclokenoogaaW.PrintLast Go.Proofs.YtdljclokenoogaaW.PrintMore
theorem Ev.pos {α : Type} {p : Prop} [Decidable p] {f g : Nat → Option α} {r : α} (hp : p) (h : Ev f r) : Ev (fun k => if p then f k else g k) r := Ev.congr (fun _ => if_pos hp) h
theorem Ev.neg {α : Type} {p : Prop} [Decidable p] {f g : Nat → Option α} {r : α} (hp : ¬ p) (h : Ev g r) : Ev (fun k => if p then f k else g k) r := Ev.congr (fun _ => if_neg hp) h
theorem Ev.val {α : Type} {f : Nat → Option α} {r : α} {K : Nat} (h : ∀ k, K ≤ k → f k = some r) : Ev f r := ⟨K, h⟩
theorem Ev.know {α β : Type} {o : Option α} {f : Nat → α → Option β} {a : α} {r : β} (h : o = some a) (k : Ev (fun n => f n a) r) : Ev (fun n => o.bind (f n)) r := by subst h; exact k
theorem has_val (xs : List ByteArray) (s : ByteArray) (hl : xs.length < 4611686018427387904) (k : Nat) (hk : xs.length < k) : cosignerref03_Has.f k xs s = some (memS xs s) := by
  have key : ∀ (d i k : Nat), xs.length - i = d → i ≤ xs.length → d < k → cosignerref03_Has.l0 k xs s (i : Int) = some (memS (xs.drop i) s) := by
    intro d
    induction d with
    | zero =>
      intro i k hd hi hk
      obtain ⟨k, rfl⟩ : ∃ m, k = m + 1 := ⟨k - 1, by omega⟩
      have e : i = xs.length := by omega
      rw [cosignerref03_Has.l0, if_neg (by omega), e, List.drop_length]
      rfl
    | succ d ih =>
      intro i k hd hi hk
      obtain ⟨k, rfl⟩ : ∃ m, k = m + 1 := ⟨k - 1, by omega⟩
      have hil : i < xs.length := by omega
      rw [cosignerref03_Has.l0, if_pos (by omega), if_pos (by omega), rdOf_nat hil, List.drop_eq_getElem_cons hil]
      by_cases h : xs[i] = s
      · rw [if_pos (by rw [h])]; simp [memS, h]
      · rw [if_neg (fun e => h (toList_inj e)), wrap_nat i (by omega), ih (i + 1) k (by omega) hil (by omega)]
        have h' : ¬ s = xs[i] := fun e => h e.symm
        rw [show memS (xs[i] :: xs.drop (i + 1)) s = memS (xs.drop (i + 1)) s by unfold memS; rw [List.any_cons, decide_eq_false h', Bool.false_or]]
  have := key xs.length 0 k rfl (Nat.zero_le _) hk
  simpa [cosignerref03_Has.f] using this
theorem has_ev (xs : List ByteArray) (s : ByteArray) (hl : xs.length < 4611686018427387904) : Ev (fun k => cosignerref03_Has.f k xs s) (memS xs s) := Ev.val (K := xs.length + 1) (fun k hk => has_val xs s hl k (by omega))
theorem index_ev (l : List S61) (s : ByteArray) (hl : l.length < 4611686018427387904) : Ev (fun k => cosignerref03_index.f k l s) (idxI l s) := Ev.val (K := l.length + 1) (fun k hk => index_val l s hl k (by omega))
theorem named_ev (s : ByteArray) : Ev (fun k => cosignerref03_named.f k s) (isName s) := Ev.val (K := 30) (fun k hk => named_val s k hk)
def dupTail (ns : List ByteArray) : Nat → Nat → Bool
  | 0, _ => false
  | d + 1, m => memS (ns.take m) (nth ns m) || dupTail ns d (m + 1)
theorem dupTail_iff (ns : List ByteArray) : ∀ (d m : Nat), m + d = ns.length → (dupTail ns d m = false ↔ ∀ j, m ≤ j → j < ns.length → memS (ns.take j) (nth ns j) = false)
  | 0, m, h => ⟨fun _ j h1 h2 => by omega, fun _ => rfl⟩
  | d + 1, m, h => by
    rw [dupTail, Bool.or_eq_false_iff, dupTail_iff ns d (m + 1) (by omega)]
    refine ⟨fun ⟨h1, h2⟩ j h3 h4 => ?_, fun h1 => ⟨h1 m (Nat.le_refl _) (by omega), fun j h3 h4 => h1 j (by omega) h4⟩⟩
    rcases Nat.eq_or_lt_of_le h3 with rfl | h5
    · exact h1
    · exact h2 j h5 h4
theorem dupTail_eq (ns : List ByteArray) : dupTail ns ns.length 0 = dupB ns := by
  have h : dupTail ns ns.length 0 = false ↔ dupB ns = false := by
    rw [dupTail_iff ns ns.length 0 (by omega), dupB_iff, List.Nodup, List.pairwise_iff_getElem]
    constructor
    · intro h i j hi hj hij e
      have := h j (Nat.zero_le _) hj
      have h2 : memS (ns.take j) (nth ns j) = true := by
        rw [memS_iff, show nth ns j = ns[j] by simp [nth, hj], ← e]
        exact List.mem_iff_getElem.2 ⟨i, by rw [List.length_take]; omega, by simp⟩
      rw [h2] at this; cases this
    · intro h j _ hj
      cases hm : memS (ns.take j) (nth ns j) with
      | false => rfl
      | true =>
        rw [memS_iff, show nth ns j = ns[j] by simp [nth, hj]] at hm
        obtain ⟨i, hi, e⟩ := List.mem_iff_getElem.1 hm
        rw [List.length_take] at hi
        rw [List.getElem_take] at e
        exact absurd e (h i j (by omega) hj (by omega))
  cases h1 : dupTail ns ns.length 0 <;> cases h2 : dupB ns <;> simp_all
section
variable {l : List S61} {i : Nat} (hi : i < l.length) (hb : l[i].f3.length ≤ 1000000)
include hi hb
theorem alone_l1 {m : Nat} (hm : m < l[i].f3.length) {R : Int} (H : Ev (fun k => cosignerref03_alone.l0 k l (i : Int) ((m + 1 : Nat) : Int)) R) : ∀ (d j : Nat), m - j = d → j ≤ m →
    Ev (fun k => cosignerref03_alone.l1 k l (i : Int) (m : Int) (j : Int)) (if memS (((l[i].f3.map (·.f0)).take m).drop j) (nth (l[i].f3.map (·.f0)) m) then 6 else R) := by
  intro d
  induction d with
  | zero =>
    intro j hd hj
    have e : j = m := by omega
    refine Ev.step (fun k => by rw [cosignerref03_alone.l1, if_neg (by omega), wrap_nat m (by omega)]) ?_
    rw [List.drop_eq_nil_of_le (by rw [List.length_take]; omega)]
    exact H
  | succ d ih =>
    intro j hd hj
    have hjm : j < m := by omega
    have hjl : j < l[i].f3.length := by omega
    have hjn : j < ((l[i].f3.map (·.f0)).take m).length := by rw [List.length_take, List.length_map]; omega
    rw [List.drop_eq_getElem_cons hjn]
    have e1 : ((l[i].f3.map (·.f0)).take m)[j] = l[i].f3[j].f0 := by rw [List.getElem_take, List.getElem_map]
    have e2 : nth (l[i].f3.map (·.f0)) m = l[i].f3[m].f0 := by simp [nth, hm]
    rw [e1]
    refine Ev.step (fun k => by rw [cosignerref03_alone.l1, if_pos (by omega), if_pos (by omega), if_pos (by omega), if_pos (by omega), rd_class hi, if_pos (by omega), if_pos (by omega), if_pos (by omega), rd_parent hjl, rd_parent hm, wrap_nat j (by omega)]) ?_
    by_cases h : l[i].f3[j].f0 = l[i].f3[m].f0
    · refine Ev.pos (by rw [h]) ?_
      rw [show memS (l[i].f3[j].f0 :: ((l[i].f3.map (·.f0)).take m).drop (j + 1)) (nth (l[i].f3.map (·.f0)) m) = true by rw [memS_iff, e2, h]; exact List.mem_cons_self .., if_pos rfl]
      exact Ev.now _
    · refine Ev.neg (fun e => h (toList_inj e)) ?_
      have := ih (j + 1) (by omega) hjm
      have e3 : memS (l[i].f3[j].f0 :: ((l[i].f3.map (·.f0)).take m).drop (j + 1)) (nth (l[i].f3.map (·.f0)) m) = memS (((l[i].f3.map (·.f0)).take m).drop (j + 1)) (nth (l[i].f3.map (·.f0)) m) := by
        have : ¬ l[i].f3[m].f0 = l[i].f3[j].f0 := fun e => h e.symm
        rw [e2]; simp [memS, this]
      rw [e3]; exact this
theorem alone_l0 : ∀ (d m : Nat), m + d = l[i].f3.length → Ev (fun k => cosignerref03_alone.l0 k l (i : Int) (m : Int)) (if dupTail (l[i].f3.map (·.f0)) d m then 6 else 0) := by
  intro d
  induction d with
  | zero =>
    intro m hd
    refine Ev.step (fun k => by rw [cosignerref03_alone.l0, if_pos (by omega), if_pos (by omega), rd_class hi, if_neg (by omega)]) ?_
    exact Ev.now _
  | succ d ih =>
    intro m hd
    have hm : m < l[i].f3.length := by omega
    have h1 := alone_l1 hi hb hm (ih (m + 1) (by omega)) m 0 (by omega) (by omega)
    refine Ev.step (fun k => by rw [cosignerref03_alone.l0, if_pos (by omega), if_pos (by omega), rd_class hi, if_pos (by omega)]) ?_
    rw [List.drop_zero] at h1
    rw [dupTail]
    cases h2 : memS ((l[i].f3.map (·.f0)).take m) (nth (l[i].f3.map (·.f0)) m) with
    | true => rw [h2] at h1; exact h1
    | false => rw [h2] at h1; exact h1
end
theorem alone_ev {l : List S61} (hl : l.length < 1000000) {i : Nat} (hi : i < l.length) : Ev (fun k => cosignerref03_alone.f k l (i : Int)) (aloneOf l i) := by
  unfold aloneOf
  rw [rd_class hi]
  refine Ev.congr (f := fun k => if l[i].f3.length > 4 then some 3 else (cosignerref03_named.f k l[i].f0).bind fun t => if t = true then (cosignerref03_index.f k l l[i].f0).bind fun u => if u < (i : Int) then some 6 else cosignerref03_alone.l0 k l (i : Int) 0 else some 4) (fun k => by
    unfold cosignerref03_alone.f
    rw [if_pos (by omega), if_pos (by omega), rd_class hi]
    by_cases h : l[i].f3.length > 4
    · rw [if_pos h, if_pos (by omega)]
    · rw [if_neg h, if_neg (by omega)]) ?_
  by_cases h4 : 4 < l[i].f3.length
  · rw [if_pos h4]; exact Ev.pos h4 (Ev.now _)
  · rw [if_neg h4]
    refine Ev.neg h4 (Ev.bind (named_ev _) ?_)
    cases hn : isName l[i].f0 with
    | false => rw [if_pos rfl]; exact Ev.neg (by decide) (Ev.now _)
    | true =>
      rw [if_neg (by decide)]
      refine Ev.pos rfl (Ev.bind (index_ev l _ (by omega)) ?_)
      have hsome : (idx l l[i].f0).isSome = true := idx_mem.2 (List.mem_map.2 ⟨l[i], List.getElem_mem hi, rfl⟩)
      obtain ⟨j, hj⟩ := Option.isSome_iff_exists.1 hsome
      unfold idxI
      rw [hj]
      simp only [Option.getD_some]
      by_cases hji : j < i
      · rw [if_pos (.inl hji)]
        exact Ev.pos (by omega) (Ev.now _)
      · refine Ev.neg (by omega) ?_
        have h0 := alone_l0 hi (by omega) l[i].f3.length 0 (by omega)
        have hd := dupTail_eq (l[i].f3.map (·.f0))
        rw [List.length_map] at hd
        rw [hd] at h0
        cases hdb : dupB (l[i].f3.map (·.f0)) with
        | true => rw [hdb] at h0; rw [if_pos (.inr rfl)]; exact h0
        | false => rw [hdb] at h0; rw [if_neg (by rintro (e | e); exact hji e; cases e)]; exact h0
theorem IsBest.ins {b x : List ByteArray} {S : List ByteArray → Prop} (h : IsBest b S) (hx : x ≠ []) : IsBest (if b.isEmpty || lessR x b then x else b) (fun r => S r ∨ r = x) := by
  rcases h with ⟨rfl, h⟩ | ⟨h0, h1, h2⟩
  · refine .inr ⟨by simpa using hx, by simp, fun r hr => ?_⟩
    simp only [List.isEmpty_nil, Bool.true_or, if_true]
    rcases hr with hr | rfl
    · exact absurd hr (h r)
    · exact lessR_irrefl _
  · have hbe : b.isEmpty = false := by cases b <;> simp_all
    rw [hbe, Bool.false_or]
    cases hl : lessR x b with
    | true =>
      rw [if_pos rfl]
      refine .inr ⟨hx, .inr rfl, fun r hr => ?_⟩
      rcases hr with hr | rfl
      · cases e2 : lessR r x with
        | false => rfl
        | true => have := h2 r hr; rw [lessR_trans e2 hl] at this; cases this
      · exact lessR_irrefl _
    | false =>
      rw [if_neg (by simp)]
      exact .inr ⟨h0, .inl h1, fun r hr => by rcases hr with hr | rfl; exact h2 r hr; exact hl⟩
theorem ringR_best (l : List S61) : IsBest ((names l).foldl (ringStepR (ups l) l.length) []) (RingS (ups l)) := by
  have hup : ∀ c p, p ∈ ups l c → c ∈ names l := fun c p hp => (ups_mem hp).1
  have hspec := fun c => furtherOf_spec (up := ups l) hup c c
  rw [names_len] at hspec
  have key : ∀ (cs : List ByteArray) (b : List ByteArray) (S : List ByteArray → Prop), IsBest b S → IsBest (cs.foldl (ringStepR (ups l) l.length) b) (fun r => S r ∨ ∃ c ∈ cs, furtherOf (ups l) l.length c c ≠ [] ∧ r = (furtherOf (ups l) l.length c c).dropLast) := by
    intro cs
    induction cs with
    | nil => intro b S h; simpa using h
    | cons c cs ih =>
      intro b S h
      rw [List.foldl_cons]
      have hstep : IsBest (ringStepR (ups l) l.length b c) (fun r => S r ∨ (furtherOf (ups l) l.length c c ≠ [] ∧ r = (furtherOf (ups l) l.length c c).dropLast)) := by
        unfold ringStepR
        by_cases hs : furtherOf (ups l) l.length c c = []
        · rw [hs]; simpa using h
        · rw [if_neg (by simpa using hs)]
          have hne : (furtherOf (ups l) l.length c c).dropLast ≠ [] := by
            rcases hspec c with ⟨h1, _⟩ | ⟨n, h1, _⟩
            · exact absurd h1 hs
            · intro e
              have := congrArg List.length e
              rw [List.length_dropLast, h1.1.len] at this
              simp at this
          refine cast ?_ (h.ins hne)
          congr 1
          funext r
          simp [hs]
      refine cast ?_ (ih _ _ hstep)
      congr 1
      funext r
      simp [or_assoc]
  have h := key (names l) [] (fun _ => False) (.inl ⟨rfl, fun _ h => h⟩)
  refine IsBest.of h ?_ ?_
  · rintro r (h | ⟨c, hc, hs, rfl⟩)
    · exact h.elim
    · rcases hspec c with ⟨h1, _⟩ | ⟨n, h1, _⟩
      · exact absurd h1 hs
      · obtain ⟨t, ht⟩ := h1.1.last
        obtain ⟨u, hu⟩ := h1.1.head
        have hl := h1.1.len
        have hw := h1.1
        rw [ht] at hl hu hw ⊢
        rw [List.dropLast_concat]
        have htl : t.length = n + 1 := by simpa using hl
        cases t with
        | nil => simp at htl
        | cons x t =>
          simp only [List.cons_append, List.cons.injEq] at hu
          obtain ⟨rfl, _⟩ := hu
          exact ⟨x, t, rfl, by rw [htl]; exact hw⟩
  · rintro r ⟨c, t, rfl, hw⟩
    have hreach : Hw.reach (ups l) (t.length + 1) c c := by have := hw.reach; rwa [List.length_cons] at this
    obtain ⟨p, hp, _⟩ := hreach
    rcases hspec c with ⟨_, h1⟩ | ⟨n, h1, h2⟩
    · exact absurd (by have := hw.reach; rwa [List.length_cons] at this) (h1 t.length)
    · have hne : furtherOf (ups l) l.length c c ≠ [] := fun e => by have := h1.1.len; rw [e] at this; simp at this
      refine ⟨_, .inr ⟨c, hup c p hp, hne, rfl⟩, ?_⟩
      obtain ⟨s, hs⟩ := h1.1.last
      have hlen := h1.1.len
      rw [hs] at hlen
      have hlen' : s.length = n + 1 := by simpa using hlen
      have hle : n ≤ t.length := Nat.le_of_not_lt (fun hlt => h2 t.length hlt (by have := hw.reach; rwa [List.length_cons] at this))
      rw [hs, List.dropLast_concat]
      simp only [lessR, Bool.or_eq_false_iff, decide_eq_false_iff_not, Bool.and_eq_false_imp, decide_eq_true_iff, List.length_cons]
      refine ⟨by omega, fun he => ?_⟩
      have he' : t.length = n := by omega
      rw [← lexB_snoc (c :: t) s c (by rw [List.length_cons]; omega), ← hs]
      refine h1.2 _ ?_
      rw [← he']
      rwa [List.length_cons] at hw
theorem ringR_eq (l : List S61) : (names l).foldl (ringStepR (ups l) l.length) [] = ringOf l := IsBest.uniq (ringR_best l) (ringOf_best l)
def smallUps (l : List S61) : Prop := l.length ≤ 1000 ∧ ∀ x ∈ l, x.f3.length ≤ 1000
theorem smallUps.ring {l : List S61} (h : smallUps l) : cosignerref03_Ring.f l = some (ringOf l) := by
  unfold cosignerref03_Ring.f
  rw [if_pos ⟨h.1, List.all_eq_true.2 (fun x hx => decide_eq_true (h.2 x hx))⟩]
  exact congrArg some (ringR_eq l)
theorem check_l2 {l : List S61} (hl : l.length < 1000000) {i : Nat} (hi : i < l.length) (hb : l[i].f3.length < 1000000) {R : Int × ByteArray} (H : Ev (fun k => cosignerref03_Check.l1 k l ((i + 1 : Nat) : Int)) R) : ∀ (d m : Nat), m + d = l[i].f3.length →
    Ev (fun k => cosignerref03_Check.l2 k l (i : Int) (m : Int)) (if (l[i].f3.drop m).any (fun p => (idx l p.f0).isNone) then (5, l[i].f0) else R) := by
  intro d
  induction d with
  | zero =>
    intro m hd
    refine Ev.step (fun k => by rw [cosignerref03_Check.l2, if_pos (by omega), if_pos (by omega), rd_class hi, if_neg (by omega), wrap_nat i (by omega)]) ?_
    rw [List.drop_eq_nil_of_le (by omega)]
    exact H
  | succ d ih =>
    intro m hd
    have hm : m < l[i].f3.length := by omega
    refine Ev.step (fun k => by rw [cosignerref03_Check.l2, if_pos (by omega), if_pos (by omega), rd_class hi, if_pos (by omega), if_pos (by omega), rd_parent hm, wrap_nat m (by omega)]) ?_
    rw [List.drop_eq_getElem_cons hm, List.any_cons]
    refine Ev.bind (index_ev l _ (by omega)) ?_
    cases hx : idx l l[i].f3[m].f0 with
    | none => exact Ev.pos (idxI_neg.2 hx) (Ev.now _)
    | some j => exact Ev.neg (fun e => by rw [idxI_neg.1 e] at hx; cases hx) (ih (m + 1) (by omega))
theorem check_l1 {l : List S61} (h : smallUps l) : ∀ (d i : Nat), i + d = l.length → (∀ j, j < i → lonelyOf l j = false) →
    Ev (fun k => cosignerref03_Check.l1 k l (i : Int)) (match (List.range l.length).find? (lonelyOf l) with | some i => (5, (rd_T61 l (i : Int)).f0) | none => match ringOf l with | r :: _ => (7, r) | [] => (0, ⟨#[]⟩)) := by
  intro d
  induction d with
  | zero =>
    intro i hd hall
    refine Ev.step (fun k => by rw [cosignerref03_Check.l1, if_neg (by omega)]) ?_
    have hf : (List.range l.length).find? (lonelyOf l) = none := by
      rw [List.find?_eq_none]
      intro j hj
      have := hall j (by have h2 := List.mem_range.1 hj; omega)
      simp [this]
    rw [hf]
    refine Ev.know h.ring ?_
    cases hr : ringOf l with
    | nil => exact Ev.neg (by simp) (Ev.now _)
    | cons r t =>
      refine Ev.pos (by simp only [List.length_cons]; omega) (Ev.pos (by simp only [List.length_cons]; omega) ?_)
      have : rdOf ByteArray.empty (r :: t) 0 = r := rfl
      rw [this]
      exact Ev.now _
  | succ d ih =>
    intro i hd hall
    have hi : i < l.length := by omega
    have hl := h.1
    have hb := h.2 l[i] (List.getElem_mem hi)
    refine Ev.step (fun k => by rw [cosignerref03_Check.l1, if_pos (by omega)]) ?_
    have hlon : lonelyOf l i = l[i].f3.any (fun p => (idx l p.f0).isNone) := by unfold lonelyOf; rw [rd_class hi]
    cases hx : lonelyOf l i with
    | true =>
      have hf : (List.range l.length).find? (lonelyOf l) = some i := by
        rw [List.find?_range_eq_some]
        exact ⟨hx, by simpa using hi, fun j hj => by simp [hall j hj]⟩
      rw [hf]
      simp only [rd_class hi]
      have hx2 := hlon.symm.trans hx
      have key : ∀ (d m : Nat), m + d = l[i].f3.length → (l[i].f3.drop m).any (fun p => (idx l p.f0).isNone) = true → Ev (fun k => cosignerref03_Check.l2 k l (i : Int) (m : Int)) (5, l[i].f0) := by
        intro d
        induction d with
        | zero => intro m hd hany; rw [List.drop_eq_nil_of_le (by omega)] at hany; cases hany
        | succ d ih =>
          intro m hd hany
          have hm : m < l[i].f3.length := by omega
          refine Ev.step (fun k => by rw [cosignerref03_Check.l2, if_pos (by omega), if_pos (by omega), rd_class hi, if_pos (by omega), if_pos (by omega), rd_parent hm, wrap_nat m (by omega)]) ?_
          rw [List.drop_eq_getElem_cons hm, List.any_cons] at hany
          refine Ev.bind (index_ev l _ (by omega)) ?_
          cases hx : idx l l[i].f3[m].f0 with
          | none => exact Ev.pos (idxI_neg.2 hx) (Ev.now _)
          | some j =>
            rw [hx] at hany
            exact Ev.neg (fun e => by rw [idxI_neg.1 e] at hx; cases hx) (ih (m + 1) (by omega) (by simpa using hany))
      exact key l[i].f3.length 0 (by omega) (by rw [List.drop_zero]; exact hx2)
    | false =>
      have := check_l2 (by omega) hi (by omega) (ih (i + 1) (by omega) (fun j hj => by
        rcases Nat.lt_or_ge j i with h2 | h2
        · exact hall j h2
        · obtain rfl : j = i := by omega
          exact hx)) l[i].f3.length 0 (by omega)
      rw [List.drop_zero, ← hlon, hx] at this
      exact this
theorem check_l0 {l : List S61} (h : smallUps l) (h24 : l.length ≤ 24) : ∀ (d i : Nat), i + d = l.length → (∀ j, j < i → aloneOf l j = 0) →
    Ev (fun k => cosignerref03_Check.l0 k l (i : Int)) (checkOf l) := by
  intro d
  induction d with
  | zero =>
    intro i hd hall
    refine Ev.step (fun k => by rw [cosignerref03_Check.l0, if_neg (by omega)]) ?_
    unfold checkOf
    have hf : (List.range l.length).find? (fun i => decide (aloneOf l i ≠ 0)) = none := by
      rw [List.find?_eq_none]
      intro j hj
      have := hall j (by have h2 := List.mem_range.1 hj; omega)
      simp [this]
    rw [if_neg (by omega), hf]
    exact check_l1 h l.length 0 (by omega) (fun j hj => absurd hj (Nat.not_lt_zero j))
  | succ d ih =>
    intro i hd hall
    have hi : i < l.length := by omega
    refine Ev.step (fun k => by rw [cosignerref03_Check.l0, if_pos (by omega), wrap_nat i (by omega)]) ?_
    refine Ev.bind (alone_ev (by omega) hi) ?_
    by_cases h0 : aloneOf l i = 0
    · refine Ev.pos h0 (ih (i + 1) (by omega) (fun j hj => ?_))
      rcases Nat.lt_or_ge j i with h2 | h2
      · exact hall j h2
      · obtain rfl : j = i := by omega
        exact h0
    · refine Ev.neg h0 (Ev.pos (by omega) ?_)
      rw [checkOf_alone h24 hi hall h0]
      exact Ev.now _
theorem check_ev {l : List S61} (h : smallUps l) : Ev (fun k => cosignerref03_Check.f k l) (checkOf l) := by
  by_cases h24 : 24 < l.length
  · refine Ev.congr (f := fun _ => some (3, (⟨#[]⟩ : ByteArray))) (fun k => by unfold cosignerref03_Check.f; rw [if_pos (by omega)]) ?_
    unfold checkOf
    rw [if_pos h24]
    exact Ev.now _
  · exact Ev.congr (fun k => by unfold cosignerref03_Check.f; rw [if_neg (by omega)]; rfl) (check_l0 h (by omega) l.length 0 (by omega) (fun j hj => absurd hj (Nat.not_lt_zero j)))
end Go.Proofs.Ytdljclokenoogaa.Hw
end
section
namespace Go.Proofs.Ytdljclokenoogaa.Hw
open Go.RowKit Go.Proofs.Ytdljclokenoogaa.Hp Go.Proofs.YtdljclokenoogaaW.PrintWords Go.Proofs.YtdljclokenoogaaW.PrintLast Go.Proofs.YtdljclokenoogaaW.PrintMore
structure Few (l : List S61) : Prop where
  len : l.length ≤ 40
  ups : ∀ x ∈ l, x.f3.length ≤ 8
theorem Few.small {l : List S61} (h : Few l) : smallUps l := ⟨by have := h.len; omega, fun x hx => by have := h.ups x hx; omega⟩
theorem few_ev (l : List S61) (hl : l.length < 4611686018427387904) : ∃ b, Ev (fun k => cosignerlaw03_few.f k l) b ∧ (b = true → Few l) := by
  have key : ∀ (d i : Nat), i + d = l.length → (∀ j (h : j < l.length), j < i → l[j].f3.length ≤ 8) → ∃ b, Ev (fun k => cosignerlaw03_few.l0 k l (i : Int)) b ∧ (b = true → Few l) := by
    intro d
    induction d with
    | zero =>
      intro i hd hall
      have hU : ∀ x ∈ l, x.f3.length ≤ 8 := fun x hx => by obtain ⟨j, hj, rfl⟩ := List.mem_iff_getElem.1 hx; exact hall j hj (by omega)
      by_cases h1 : l.length ≤ 10
      · exact ⟨true, Ev.step (fun k => by rw [cosignerlaw03_few.l0, if_neg (by omega), if_pos (by omega)]) (Ev.now _), fun _ => ⟨by omega, hU⟩⟩
      · by_cases h2 : l.length > 24
        · refine ⟨decide ((l.length : Int) ≤ 40), Ev.step (fun k => by rw [cosignerlaw03_few.l0, if_neg (by omega), if_neg (by omega), if_pos (by omega)]) (Ev.now _), fun h => ⟨by have := of_decide_eq_true h; omega, hU⟩⟩
        · exact ⟨false, Ev.step (fun k => by rw [cosignerlaw03_few.l0, if_neg (by omega), if_neg (by omega), if_neg (by omega)]) (Ev.now _), fun h => by cases h⟩
    | succ d ih =>
      intro i hd hall
      have hi : i < l.length := by omega
      by_cases h8 : l[i].f3.length > 8
      · exact ⟨false, Ev.step (fun k => by rw [cosignerlaw03_few.l0, if_pos (by omega), if_pos (by omega), rd_class hi, if_pos (by omega)]) (Ev.now _), fun h => by cases h⟩
      · obtain ⟨b, h1, h2⟩ := ih (i + 1) (by omega) (fun j hj hji => by
          rcases Nat.lt_or_ge j i with h2 | h2
          · exact hall j hj h2
          · obtain rfl : j = i := by omega
            omega)
        exact ⟨b, Ev.step (fun k => by rw [cosignerlaw03_few.l0, if_pos (by omega), if_pos (by omega), rd_class hi, if_neg (by omega), wrap_nat i (by omega)]) h1, h2⟩
  obtain ⟨b, h1, h2⟩ := key l.length 0 (by omega) (fun j _ h => absurd h (Nat.not_lt_zero j))
  exact ⟨b, h1, h2⟩
theorem sameNames_ev (xs : List ByteArray) (hl : xs.length < 4611686018427387904) : Ev (fun k => cosignerref03_SameNames.f k xs xs) true := by
  have key : ∀ (d i : Nat), i + d = xs.length → Ev (fun k => cosignerref03_SameNames.l0 k xs xs (i : Int)) true := by
    intro d
    induction d with
    | zero => intro i hd; exact Ev.step (fun k => by rw [cosignerref03_SameNames.l0, if_neg (by omega)]) (Ev.now _)
    | succ d ih =>
      intro i hd
      exact Ev.step (fun k => by rw [cosignerref03_SameNames.l0, if_pos (by omega), if_pos (by omega), if_pos (by omega), if_pos rfl, wrap_nat i (by omega)]) (ih (i + 1) (by omega))
  exact Ev.congr (fun k => by unfold cosignerref03_SameNames.f; rw [if_pos rfl]; rfl) (key xs.length 0 (by omega))
end Go.Proofs.Ytdljclokenoogaa.Hw
end
section
namespace Go.Proofs.Ytdljclokenoogaa.Hw
open Go.RowKit Go.Proofs.Ytdljclokenoogaa.Hp Go.Proofs.YtdljclokenoogaaW.PrintWords Go.Proofs.YtdljclokenoogaaW.PrintLast Go.Proofs.YtdljclokenoogaaW.PrintMore
theorem parents_ev {l : List S61} (h : smallUps l) (c : ByteArray) : Ev (fun k => cosignerref03_parents.f k l c) (parN l c) := Ev.val (K := 1002) (fun k hk => parents_val l c (by have := h.1; omega) (B := 1000) (by omega) h.2 k (by have := h.1; omega) (by omega))
end Go.Proofs.Ytdljclokenoogaa.Hw
end
section
namespace Go.Proofs.Ytdljclokenoogaa.Hw
open Go.RowKit Go.Proofs.Ytdljclokenoogaa.Hp Go.Proofs.YtdljclokenoogaaW.PrintWords Go.Proofs.YtdljclokenoogaaW.PrintLast Go.Proofs.YtdljclokenoogaaW.PrintMore
theorem asked_l0 {l : List S61} (hl : l.length < 4611686018427387904) (ns : List ByteArray) (hn : ns.length < 1000000) : ∀ (d i : Nat), i + d = ns.length →
    Ev (fun k => cosignerref03_asked.l0 k l ns (i : Int)) (if (ns.drop i).all (fun s => (idx l s).isSome) then 0 else 5) := by
  intro d
  induction d with
  | zero =>
    intro i hd
    rw [List.drop_eq_nil_of_le (by omega)]
    exact Ev.step (fun k => by rw [cosignerref03_asked.l0, if_neg (by omega)]; rfl) (Ev.now _)
  | succ d ih =>
    intro i hd
    have hi : i < ns.length := by omega
    rw [List.drop_eq_getElem_cons hi, List.all_cons]
    refine Ev.step (fun k => by rw [cosignerref03_asked.l0, if_pos (by omega), if_pos (by omega), rdOf_nat hi, wrap_nat i (by omega)]) ?_
    refine Ev.bind (index_ev l _ hl) ?_
    cases h : idx l ns[i] with
    | none => exact Ev.pos (idxI_neg.2 h) (Ev.now _)
    | some j => exact Ev.neg (fun e => by rw [idxI_neg.1 e] at h; cases h) (by simpa using ih (i + 1) (by omega))
theorem asked_ev {l : List S61} (h : smallUps l) (ns : List ByteArray) (hn : ns.length < 1000000) : Ev (fun k => cosignerref03_asked.f k l ns) (askedOf l ns) := by
  refine Ev.congr (fun k => by rw [cosignerref03_asked.f]) (Ev.bind (check_ev h) ?_)
  unfold askedOf
  by_cases h0 : (checkOf l).1 = 0
  · rw [if_neg (by simpa using h0)]
    refine Ev.pos h0 ?_
    have := asked_l0 (l := l) (by have := h.1; omega) ns hn ns.length 0 (by omega)
    rw [List.drop_zero] at this
    exact this
  · rw [if_pos h0]
    exact Ev.neg h0 (Ev.now _)
theorem ups_right {l : List S61} (h : (checkOf l).1 = 0) (c : ByteArray) : ups l c = parN l c := by
  rw [ups_parN, List.filter_eq_self]
  intro p hp
  unfold parN at hp
  cases hi : idx l c with
  | none => rw [hi] at hp; cases hp
  | some i =>
    rw [hi] at hp
    obtain ⟨x, hx, rfl⟩ := List.mem_map.1 hp
    have h1 := (checkOk h).2.2.1 i (idx_lt hi)
    unfold lonelyOf at h1
    have h2 := List.any_eq_false.1 h1 x hx
    cases hj : idx l x.f0 with
    | none => rw [hj] at h2; simp at h2
    | some _ => rfl
end Go.Proofs.Ytdljclokenoogaa.Hw
end
section
namespace Go.Proofs.Ytdljclokenoogaa.Hw
open Go.RowKit Go.Proofs.Ytdljclokenoogaa.Hp Go.Proofs.YtdljclokenoogaaW.PrintWords Go.Proofs.YtdljclokenoogaaW.PrintLast Go.Proofs.YtdljclokenoogaaW.PrintMore
theorem reach_mem {up : ByteArray → List ByteArray} {nm : List ByteArray} (hup : ∀ c p, p ∈ up c → p ∈ nm) : ∀ (n : Nat) (c a : ByteArray), c ∈ nm → Hw.reach up n c a → a ∈ nm
  | 0, c, a, hc, h => by have e : c = a := h; exact e ▸ hc
  | n + 1, c, a, _, ⟨p, hp, h⟩ => reach_mem hup n p a (hup c p hp) h
theorem addS_nodup {out : List ByteArray} {a : ByteArray} (h : out.Nodup) : (addS out a).Nodup := by
  unfold addS
  split
  · exact h
  · rename_i hm
    rw [List.nodup_append]
    exact ⟨h, by simp, fun x hx y hy => by simp at hy; subst hy; exact fun e => hm (memS_iff.2 (e ▸ hx))⟩
def Sub (l : List S61) (out : List ByteArray) : Prop := out.Nodup ∧ ∀ x ∈ out, x ∈ names l
theorem Sub.len {l : List S61} {out : List ByteArray} (h : Sub l out) : out.length ≤ l.length := by
  have := length_le_of_subset out (names l) h.1 h.2
  rwa [names_len] at this
theorem Sub.nil (l : List S61) : Sub l [] := ⟨List.nodup_nil, by simp⟩
theorem Sub.addS {l : List S61} {out : List ByteArray} {a : ByteArray} (h : Sub l out) (ha : a ∈ names l) : Sub l (addS out a) :=
  ⟨addS_nodup h.1, fun x hx => by rcases (addS_mem out a x).1 hx with hx | rfl; exact h.2 x hx; exact ha⟩
theorem Sub.fold {l : List S61} : ∀ (L : List ByteArray) {out : List ByteArray}, Sub l out → (∀ x ∈ L, x ∈ names l) → Sub l (L.foldl Hw.addS out)
  | [], _, h, _ => h
  | a :: L, _, h, hL => Sub.fold L (h.addS (hL a (by simp))) (fun x hx => hL x (by simp [hx]))
section
variable {l : List S61} (h : smallUps l)
include h
theorem above_l1 {c p : ByteArray} {ps a : List ByteArray} {i : Nat} (hi : i < 1000000) (ha : ∀ x ∈ a, x ∈ names l) (hal : a.length ≤ 1000) {R : List ByteArray} : ∀ (d j : Nat) (out : List ByteArray), j + d = a.length → Sub l out →
    Ev (fun k => cosignerref03_above.l0 k l c ((a.drop j).foldl addS out) ps ((i + 1 : Nat) : Int)) R → Ev (fun k => cosignerref03_above.l1 k l c out ps (i : Int) a (j : Int)) R := by
  intro d
  induction d with
  | zero =>
    intro j out hd hs H
    refine Ev.step (fun k => by rw [cosignerref03_above.l1, if_neg (by omega), wrap_nat i (by omega)]) ?_
    rw [List.drop_eq_nil_of_le (by omega)] at H
    exact H
  | succ d ih =>
    intro j out hd hs H
    have hj : j < a.length := by omega
    have hl := hs.len
    have hl2 := h.1
    rw [List.drop_eq_getElem_cons hj, List.foldl_cons] at H
    refine Ev.step (fun k => by rw [cosignerref03_above.l1, if_pos (by omega), if_pos (by omega), rdOf_nat hj, wrap_nat j (by omega)]) ?_
    refine Ev.bind (has_ev out a[j] (by omega)) ?_
    have hs2 := hs.addS (ha a[j] (List.getElem_mem hj))
    have h1 := ih (j + 1) (addS out a[j]) (by omega) hs2 H
    cases hm : memS out a[j] with
    | true =>
      rw [addS, if_pos hm] at h1
      exact Ev.pos rfl h1
    | false =>
      rw [addS, if_neg (by rw [hm]; decide)] at h1
      exact Ev.neg (by decide) (Ev.pos (by omega) h1)
variable (hc0 : (checkOf l).1 = 0) {rk : ByteArray → Nat} (hrk : ∀ c p, p ∈ ups l c → rk p < rk c)
include hc0 hrk
omit h hc0 in
theorem abv_sub {n : Nat} {c : ByteArray} (hc : c ∈ names l) : ∀ x ∈ abv (ups l) n c, x ∈ names l := fun x hx => by
  obtain ⟨m, hm⟩ := mem_abv n c x hx
  exact reach_mem (fun c p hp => (ups_mem hp).2) m c x hc hm
theorem above_l0 {m : Nat} (hih : ∀ p ∈ names l, rk p < m → Ev (fun k => cosignerref03_above.f k l p) (abv (ups l) m p)) (hal : ∀ p ∈ names l, rk p < m → (abv (ups l) m p).length ≤ 1000) {c : ByteArray} {ps : List ByteArray} (hps : ∀ p ∈ ps, p ∈ names l ∧ rk p < m) (hpl : ps.length ≤ 1000) : ∀ (d i : Nat) (out : List ByteArray), i + d = ps.length → Sub l out →
    Ev (fun k => cosignerref03_above.l0 k l c out ps (i : Int)) ((ps.drop i).foldl (fun out p => (abv (ups l) m p).foldl addS out) out ++ [c]) := by
  intro d
  induction d with
  | zero =>
    intro i out hd hs
    have hl := hs.len
    have hl2 := h.1
    refine Ev.step (fun k => by rw [cosignerref03_above.l0, if_neg (by omega), if_pos (by omega)]) ?_
    rw [List.drop_eq_nil_of_le (by omega)]
    exact Ev.now _
  | succ d ih =>
    intro i out hd hs
    have hi : i < ps.length := by omega
    obtain ⟨hp1, hp2⟩ := hps ps[i] (List.getElem_mem hi)
    rw [List.drop_eq_getElem_cons hi, List.foldl_cons]
    refine Ev.step (fun k => by rw [cosignerref03_above.l0, if_pos (by omega), if_pos (by omega), rdOf_nat hi]) ?_
    refine Ev.bind (hih _ hp1 hp2) ?_
    refine above_l1 h (p := c) (by omega) (abv_sub hrk hp1) (hal _ hp1 hp2) (abv (ups l) m ps[i]).length 0 out (by omega) hs ?_
    rw [List.drop_zero]
    exact ih (i + 1) _ (by omega) (Sub.fold _ hs (abv_sub hrk hp1))
theorem abv_len {n : Nat} {c : ByteArray} (hc : c ∈ names l) (hn : rk c < n) : (abv (ups l) n c).length ≤ 1000 := by
  rw [abv_vis hrk n c hn]
  have h1 := vis_ok hrk n c [] hn Ordered.nil List.nodup_nil
  have h2 : Sub l (vis (ups l) n c []) := ⟨h1.2.1, fun x hx => by rw [← abv_vis hrk n c hn] at hx; exact abv_sub hrk hc x hx⟩
  have := h2.len
  have := h.1
  omega
theorem above_n : ∀ (n : Nat) (c : ByteArray), c ∈ names l → rk c < n → Ev (fun k => cosignerref03_above.f k l c) (abv (ups l) n c)
  | 0, c, _, hn => by omega
  | n + 1, c, hc, hn => by
    have hpl := parN_len (c := c) h.2
    have hup := ups_right hc0 c
    refine Ev.step (fun k => by rw [cosignerref03_above.f]) (Ev.bind (parents_ev h c) ?_)
    rw [← hup] at hpl ⊢
    have := above_l0 h hc0 hrk (m := n) (fun p hp hr => above_n n p hp hr) (fun p hp hr => abv_len h hc0 hrk hp hr) (c := c) (ps := ups l c) (fun p hp => ⟨(ups_mem hp).2, by have := hrk c p hp; omega⟩) hpl (ups l c).length 0 [] (by omega) (Sub.nil l)
    rw [List.drop_zero] at this
    exact this
omit hrk
theorem above_ev {c : ByteArray} (hc : c ∈ names l) : Ev (fun k => cosignerref03_above.f k l c) (anc l c) := by
  obtain ⟨rk, hrk, hrn⟩ := rank_of_ring (checkOk hc0).2.2.2
  have := above_n h hc0 hrk (l.length + 1) c hc (hrn c)
  rw [abv_vis hrk _ _ (hrn c)] at this
  exact this
theorem anc_small {c : ByteArray} (hc : c ∈ names l) : (anc l c).length ≤ 1000 := by
  obtain ⟨h1, h2⟩ := anc_names hc0 hc
  have h3 : Sub l (anc l c) := ⟨h2, h1⟩
  have := h3.len
  have := h.1
  omega
theorem under_l1 {ns out a : List ByteArray} {i : Nat} (hi : i < l.length) (hn : ns.length < 1000000) (ha : a.length ≤ 1000) (ho : out.length ≤ 1000) {R : List ByteArray} : ∀ (d j : Nat) (b : Bool), j + d = a.length →
    Ev (fun k => cosignerref03_under.l0 k l ns (if b || (a.drop j).any (memS ns) then out ++ [l[i].f0] else out) ((i + 1 : Nat) : Int)) R → Ev (fun k => cosignerref03_under.l1 k l ns out (i : Int) a b (j : Int)) R := by
  have hl2 := h.1
  intro d
  induction d with
  | zero =>
    intro j b hd H
    rw [List.drop_eq_nil_of_le (by omega), List.any_nil, Bool.or_false] at H
    refine Ev.step (fun k => by rw [cosignerref03_under.l1, if_neg (by omega), wrap_nat i (by omega)]) ?_
    cases b with
    | true => exact Ev.pos rfl (Ev.pos (by omega) (Ev.pos (by omega) (Ev.pos (by omega) (by rw [rd_class hi]; exact H))))
    | false => exact Ev.neg (by decide) H
  | succ d ih =>
    intro j b hd H
    have hj : j < a.length := by omega
    rw [List.drop_eq_getElem_cons hj, List.any_cons] at H
    refine Ev.step (fun k => by rw [cosignerref03_under.l1, if_pos (by omega), if_pos (by omega), rdOf_nat hj, wrap_nat j (by omega)]) ?_
    refine Ev.bind (has_ev ns a[j] (by omega)) ?_
    cases b with
    | true => exact Ev.pos rfl (ih (j + 1) true (by omega) (by simpa using H))
    | false =>
      refine Ev.neg (by decide) (ih (j + 1) _ (by omega) ?_)
      rw [Bool.false_or] at H
      exact H
theorem under_l0 (ns : List ByteArray) (hn : ns.length < 1000000) : ∀ (d i : Nat) (out : List ByteArray), i + d = l.length → out.length ≤ i →
    Ev (fun k => cosignerref03_under.l0 k l ns out (i : Int)) (out ++ ((names l).drop i).filter (fun c => (anc l c).any (memS ns))) := by
  have hl2 := h.1
  intro d
  induction d with
  | zero =>
    intro i out hd ho
    refine Ev.step (fun k => by rw [cosignerref03_under.l0, if_neg (by omega)]) ?_
    rw [List.drop_eq_nil_of_le (by rw [names_len]; omega), List.filter_nil, List.append_nil]
    exact Ev.now _
  | succ d ih =>
    intro i out hd ho
    have hi : i < l.length := by omega
    have hin : i < (names l).length := by rw [names_len]; exact hi
    have en : (names l)[i] = l[i].f0 := by simp [names]
    have hm : l[i].f0 ∈ names l := List.mem_map.2 ⟨l[i], List.getElem_mem hi, rfl⟩
    rw [List.drop_eq_getElem_cons hin, List.filter_cons, en]
    refine Ev.step (fun k => by rw [cosignerref03_under.l0, if_pos (by omega), if_pos (by omega), rd_class hi]) ?_
    refine Ev.bind (above_ev h hc0 hm) ?_
    refine under_l1 h hc0 hi hn (anc_small h hc0 hm) (by omega) (anc l l[i].f0).length 0 false (by omega) ?_
    rw [List.drop_zero, Bool.false_or]
    cases (anc l l[i].f0).any (memS ns) with
    | true =>
      rw [if_pos rfl]
      have := ih (i + 1) (out ++ [l[i].f0]) (by omega) (by simp; omega)
      simpa using this
    | false =>
      rw [if_neg (by decide)]
      have := ih (i + 1) out (by omega) (by omega)
      simpa using this
theorem under_ev (ns : List ByteArray) (hn : ns.length < 1000000) : Ev (fun k => cosignerref03_under.f k l ns) ((names l).filter (fun c => (anc l c).any (memS ns))) := by
  have := under_l0 h hc0 ns hn l.length 0 [] (by omega) (by simp)
  refine Ev.congr (f := fun k => cosignerref03_under.l0 k l ns [] 0) (fun k => rfl) ?_
  simpa using this
end
end Go.Proofs.Ytdljclokenoogaa.Hw
end
section
namespace Go.Proofs.Ytdljclokenoogaa.Hw
open Go.RowKit Go.Proofs.Ytdljclokenoogaa.Hp Go.Proofs.YtdljclokenoogaaW.PrintWords Go.Proofs.YtdljclokenoogaaW.PrintLast Go.Proofs.YtdljclokenoogaaW.PrintMore
theorem parN_at {l : List S61} (hc0 : (checkOf l).1 = 0) {i : Nat} (hi : i < l.length) : parN l l[i].f0 = l[i].f3.map (·.f0) := by
  have hp : 0 < l.length := by omega
  have h : Good l := ⟨hc0, hp⟩
  have := h.ups_at hi
  rw [rd_class hi] at this
  rw [← ups_right hc0]
  exact this
theorem parN_nodup {l : List S61} (hc0 : (checkOf l).1 = 0) {i : Nat} (hi : i < l.length) : (parN l l[i].f0).Nodup := by
  rw [parN_at hc0 hi]
  have h1 := (checkOk hc0).2.1 i hi
  unfold aloneOf at h1
  rw [rd_class hi] at h1
  split at h1
  · cases h1
  · split at h1
    · cases h1
    · split at h1
      · cases h1
      · rename_i h2
        refine (dupB_iff _).1 ?_
        cases hd : dupB (l[i].f3.map (·.f0)) with
        | false => rfl
        | true => exact absurd (.inr hd) h2
section
variable {l : List S61} (h : smallUps l) (hc0 : (checkOf l).1 = 0)
include h hc0
end
end Go.Proofs.Ytdljclokenoogaa.Hw
end
section
namespace Go.Proofs.Ytdljclokenoogaa.Hw
open Go.RowKit Go.Proofs.Ytdljclokenoogaa.Hp Go.Proofs.YtdljclokenoogaaW.PrintWords Go.Proofs.YtdljclokenoogaaW.PrintLast Go.Proofs.YtdljclokenoogaaW.PrintMore
theorem upsNodup {l : List S61} (hc0 : (checkOf l).1 = 0) (c : ByteArray) : (ups l c).Nodup := by
  rw [ups_right hc0]
  by_cases hc : c ∈ names l
  · obtain ⟨x, hx, rfl⟩ := List.mem_map.1 hc
    obtain ⟨i, hi, rfl⟩ := List.mem_iff_getElem.1 hx
    exact parN_nodup hc0 hi
  · rw [← ups_right hc0]
    cases hu : ups l c with
    | nil => exact List.nodup_nil
    | cons p t => exact absurd (ups_mem (show p ∈ ups l c by rw [hu]; simp)).1 hc
theorem above_val {l : List S61} (h : smallUps l) (c : ByteArray) : Ev (fun k => cosignerref03_Above.f k l c) (aboveOf l c) := by
  refine Ev.congr (fun k => by rw [cosignerref03_Above.f]) (Ev.bind (asked_ev h [c] (by simp)) ?_)
  unfold aboveOf
  by_cases h0 : askedOf l [c] = 0
  · rw [if_pos h0]
    exact Ev.pos h0 (Ev.bind (above_ev h (askedOk h0).1 ((askedOk h0).2 c (by simp))) (Ev.now _))
  · rw [if_neg h0]
    exact Ev.neg h0 (Ev.now _)
theorem any_one (xs : List ByteArray) (c : ByteArray) : xs.any (memS [c]) = memS xs c := by
  rw [Bool.eq_iff_iff, List.any_eq_true, memS_iff]
  constructor
  · rintro ⟨x, hx, e⟩
    have := memS_iff.1 e
    rw [List.mem_singleton] at this
    exact this ▸ hx
  · exact fun hc => ⟨c, hc, memS_iff.2 (by simp)⟩
theorem below_val {l : List S61} (h : smallUps l) (c : ByteArray) : Ev (fun k => cosignerref03_Below.f k l c) (belowOf l c) := by
  refine Ev.congr (fun k => by rw [cosignerref03_Below.f]) (Ev.bind (asked_ev h [c] (by simp)) ?_)
  unfold belowOf
  by_cases h0 : askedOf l [c] = 0
  · rw [if_pos h0]
    have := under_ev h (askedOk h0).1 [c] (by simp)
    rw [show (fun d => (anc l d).any (memS [c])) = (fun d => memS (anc l d) c) from funext fun d => any_one _ _] at this
    exact Ev.pos h0 (Ev.bind this (Ev.now _))
  · rw [if_neg h0]
    exact Ev.neg h0 (Ev.now _)
theorem is_val {l : List S61} (h : smallUps l) (c a : ByteArray) : Ev (fun k => cosignerref03_Is.f k l c a) (isOf l c a) := by
  refine Ev.congr (fun k => by rw [cosignerref03_Is.f]) (Ev.bind (asked_ev h [c, a] (by simp)) ?_)
  unfold isOf
  by_cases h0 : askedOf l [c, a] = 0
  · rw [if_pos h0]
    have hc := (askedOk h0).2 c (by simp)
    have := anc_small h (askedOk h0).1 hc
    exact Ev.pos h0 (Ev.bind (above_ev h (askedOk h0).1 hc) (Ev.bind (has_ev _ _ (by omega)) (Ev.now _)))
  · rw [if_neg h0]
    exact Ev.neg h0 (Ev.now _)
def wN (l : List S61) (a o : ByteArray) : Nat := waysN (ups l) (l.length + 1) o a
def wRow (l : List S61) (a : ByteArray) (T : List ByteArray) : List Int := T.map (fun o => (wN l a o : Int))
theorem wRow_len (l : List S61) (a : ByteArray) (T : List ByteArray) : (wRow l a T).length = T.length := by simp [wRow]
theorem wRow_rd (l : List S61) (a : ByteArray) {T : List ByteArray} {j : Nat} (h : j < T.length) : rd (wRow l a T) (j : Int) = (wN l a T[j] : Int) := by simp [rd, wRow, h]
theorem sum_in {T ps : List ByteArray} (hT : T.Nodup) (hp : ps.Nodup) (hs : ∀ p ∈ ps, p ∈ T) (w : ByteArray → Nat) : ((T.filter (memS ps)).map w).sum = (ps.map w).sum := by
  refine List.Perm.sum_nat (List.Perm.map w ((List.perm_ext_iff_of_nodup (hT.filter _) hp).2 (fun x => ?_)))
  rw [List.mem_filter, memS_iff]
  exact ⟨fun e => e.2, fun e => ⟨hs x e, e⟩⟩
theorem ways_l1 {l : List S61} {a : ByteArray} {os ps : List ByteArray} {i V : Nat} (hi : i < os.length) (ho : os.length ≤ 1000) (hp : ps.length ≤ 1000) (hV : V ≤ 2000000000000000000) {R : Int}
    (H : Ev (fun k => cosignerref03_ways.l0 k l a os (wRow l a (os.take i) ++ [(V : Int)]) ((i + 1 : Nat) : Int)) R) : ∀ (d j acc : Nat), j + d = i → acc + ((((os.take i).drop j).filter (memS ps)).map (wN l a)).sum = V →
    Ev (fun k => cosignerref03_ways.l1 k l a os (wRow l a (os.take i)) (i : Int) (acc : Int) ps (j : Int)) R := by
  have hTl : (os.take i).length = i := by rw [List.length_take]; omega
  have hrl := wRow_len l a (os.take i)
  intro d
  induction d with
  | zero =>
    intro j acc hd e
    rw [List.drop_eq_nil_of_le (by omega)] at e
    have e2 : acc = V := by simpa using e
    subst e2
    refine Ev.step (fun k => by rw [cosignerref03_ways.l1, if_neg (by omega), if_pos (by omega), wrap_nat i (by omega)]) H
  | succ d ih =>
    intro j acc hd e
    have hj : j < (os.take i).length := by omega
    have hj2 : j < os.length := by omega
    have eT : (os.take i)[j] = os[j] := by simp
    rw [List.drop_eq_getElem_cons hj, List.filter_cons, eT] at e
    refine Ev.step (fun k => by rw [cosignerref03_ways.l1, if_pos (by omega), if_pos (by omega), if_pos (by omega), rdOf_nat hj2, wrap_nat j (by omega)]) ?_
    refine Ev.bind (has_ev ps os[j] (by omega)) ?_
    cases hm : memS ps os[j] with
    | true =>
      rw [hm, if_pos rfl, List.map_cons, List.sum_cons] at e
      have ew : wrap64 ((acc : Int) + rd (wRow l a (os.take i)) (j : Int)) = ((acc + wN l a os[j] : Nat) : Int) := by rw [wRow_rd l a hj, eT, wrap64_of_range _ (by omega) (by omega)]; omega
      refine Ev.pos rfl (Ev.pos (by omega) ?_)
      rw [ew]
      exact ih (j + 1) _ (by omega) (by omega)
    | false =>
      rw [hm, if_neg (by decide)] at e
      exact Ev.neg (by decide) (ih (j + 1) acc (by omega) e)
section
variable {l : List S61} (h : smallUps l) (hc0 : (checkOf l).1 = 0)
include h hc0
omit h in
theorem wN_small (a o : ByteArray) : wN l a o ≤ 2000000000000000000 := waysN_small (checkOk_four (checkOk hc0).2.1) (by have := (checkOk hc0).1; omega) o
theorem ways_l0 {a : ByteArray} {os : List ByteArray} (hor : Ordered (ups l) os) (hnd : os.Nodup) (ho : os.length ≤ 1000) (hpos : 0 < os.length) : ∀ (d i : Nat), i + d = os.length →
    Ev (fun k => cosignerref03_ways.l0 k l a os (wRow l a (os.take i)) (i : Int)) (wN l a (nth os (os.length - 1)) : Int) := by
  obtain ⟨rk, hrk, hrn⟩ := rank_of_ring (checkOk hc0).2.2.2
  intro d
  induction d with
  | zero =>
    intro i hd
    have hi : i = os.length := by omega
    subst hi
    rw [List.take_length]
    have hrl := wRow_len l a os
    have hw : wrap64 (((wRow l a os).length : Int) - 1) = ((os.length - 1 : Nat) : Int) := by rw [wrap64_of_range _ (by omega) (by omega)]; omega
    refine Ev.step (fun k => by rw [cosignerref03_ways.l0, if_neg (by omega), hw, if_pos (by omega), if_pos (by omega), wRow_rd l a (show os.length - 1 < os.length by omega)]) ?_
    have : nth os (os.length - 1) = os[os.length - 1] := by simp [nth, show os.length - 1 < os.length by omega]
    rw [this]
    exact Ev.now _
  | succ d ih =>
    intro i hd
    have hi : i < os.length := by omega
    have en : nth os i = os[i] := by simp [nth, hi]
    have hps : ∀ p ∈ ups l os[i], p ∈ os.take i := fun p hp => hor (os.take i) os[i] (os.drop (i + 1)) (by rw [← en]; exact mem_take_split hi) p hp
    have e1 : wN l a os[i] = (if os[i] = a then 1 else 0) + ((((os.take i).drop 0).filter (memS (ups l os[i]))).map (wN l a)).sum := by
      rw [List.drop_zero, sum_in (hnd.sublist (List.take_sublist i os)) (upsNodup hc0 _) hps]
      unfold wN
      simp only [waysN]
      congr 2
      exact List.map_congr_left (fun p hp => by
        have h1 := hrk os[i] p hp; have h2 := hrn os[i]
        exact (waysN_fuel hrk (l.length + 1) l.length p a (hrn p) (by omega)).symm)
    have hnext : Ev (fun k => cosignerref03_ways.l0 k l a os (wRow l a (os.take i) ++ [(wN l a os[i] : Int)]) ((i + 1 : Nat) : Int)) (wN l a (nth os (os.length - 1)) : Int) := by
      have := ih (i + 1) (by omega)
      rw [show wRow l a (os.take (i + 1)) = wRow l a (os.take i) ++ [(wN l a os[i] : Int)] by rw [take_nth os i hi, en]; unfold wRow; rw [List.map_append]; rfl] at this
      exact this
    have hpl := parN_len (c := os[i]) h.2
    have hj : ∀ acc : Nat, acc = (if os[i] = a then 1 else 0) → Ev (fun k => cosignerref03_ways.j1 k l a os (wRow l a (os.take i)) (i : Int) (acc : Int)) (wN l a (nth os (os.length - 1)) : Int) := fun acc ha => by
      refine Ev.step (fun k => by rw [cosignerref03_ways.j1, if_pos (by omega), if_pos (by omega), rdOf_nat hi]) (Ev.bind (parents_ev h _) ?_)
      rw [← ups_right hc0] at hpl ⊢
      exact ways_l1 hi ho hpl (wN_small hc0 a os[i]) hnext i 0 acc (by omega) (by rw [ha]; exact e1.symm)
    refine Ev.step (fun k => by rw [cosignerref03_ways.l0, if_pos (by omega), if_pos (by omega), rdOf_nat hi]) ?_
    by_cases hca : os[i] = a
    · exact Ev.pos (by rw [hca]) (hj 1 (by rw [if_pos hca]))
    · exact Ev.neg (fun e => hca (toList_inj e)) (hj 0 (by rw [if_neg hca]))
theorem ways_ev {c : ByteArray} (a : ByteArray) (hc : c ∈ names l) : Ev (fun k => cosignerref03_ways.f k l c a) (wN l a c : Int) := by
  refine Ev.congr (fun k => by rw [cosignerref03_ways.f]) (Ev.bind (above_ev h hc0 hc) ?_)
  obtain ⟨rk, hrk, hrn⟩ := rank_of_ring (checkOk hc0).2.2.2
  have h1 := vis_ok hrk (l.length + 1) c [] (hrn c) Ordered.nil List.nodup_nil
  obtain ⟨t, ht⟩ := vis_last (up := ups l) (n := l.length) (c := c)
  have hs := anc_small h hc0 hc
  have ht2 : anc l c = t ++ [c] := ht
  have hpos : 0 < (anc l c).length := by rw [ht2]; simp
  have := ways_l0 h hc0 (a := a) (os := anc l c) h1.1 h1.2.1 hs hpos (anc l c).length 0 (by omega)
  rw [show nth (anc l c) ((anc l c).length - 1) = c by rw [ht2]; simp [nth]] at this
  exact this
end
theorem ways_val {l : List S61} (h : smallUps l) (c a : ByteArray) : Ev (fun k => cosignerref03_Ways.f k l c a) (((waysOf l c a).1 : Int), (waysOf l c a).2) := by
  refine Ev.congr (fun k => by rw [cosignerref03_Ways.f]) (Ev.bind (asked_ev h [c, a] (by simp)) ?_)
  unfold waysOf
  by_cases h0 : askedOf l [c, a] = 0
  · rw [if_pos h0]
    exact Ev.pos h0 (Ev.bind (ways_ev h (askedOk h0).1 a ((askedOk h0).2 c (by simp))) (Ev.now _))
  · rw [if_neg h0]
    exact Ev.neg h0 (Ev.now _)
theorem pure_ancestors (l : List S61) (c a : ByteArray) (hl : l.length < 4611686018427387904) : ∃ k, cosignerlaw03_HeirAncestors.f k l c a = some true := by
  obtain ⟨b, hb, hf⟩ := few_ev l hl
  refine Ev.rounds (g := fun k => cosignerlaw03_HeirAncestors.f k l c a) (Ev.congr (fun k => by rw [cosignerlaw03_HeirAncestors.f]) (Ev.bind hb ?_))
  cases b with
  | false => exact Ev.neg (by decide) (Ev.know rfl (Ev.now _))
  | true =>
    refine Ev.pos rfl ?_
    have h := (hf rfl).small
    have hll := (hf rfl).len
    have h1 : (aboveOf l c).1.length ≤ 1000 := by
      unfold aboveOf
      split
      · rename_i h0
        exact anc_small h (askedOk h0).1 ((askedOk h0).2 c (by simp))
      · simp
    have h2 : (belowOf l c).1.length ≤ l.length := by
      unfold belowOf
      split
      · exact Nat.le_trans (List.length_filter_le _ _) (by rw [names_len]; exact Nat.le_refl _)
      · simp
    refine Ev.know (show heir_Above.f l c = some (aboveOf l c) from rfl) (Ev.bind (above_val h c) ?_)
    refine Ev.know (show heir_Below.f l c = some (belowOf l c) from rfl) (Ev.bind (below_val h c) ?_)
    refine Ev.know (show heir_Is.f l c a = some (isOf l c a) from rfl) (Ev.bind (is_val h c a) ?_)
    refine Ev.know (show heir_Ways.f l c a = some (((waysOf l c a).1 : Int), (waysOf l c a).2) from rfl) (Ev.bind (ways_val h c a) ?_)
    refine Ev.know rfl (Ev.pos rfl ?_)
    refine Ev.bind (sameNames_ev (aboveOf l c).1 (by omega)) (Ev.pos rfl (Ev.pos rfl (Ev.bind (sameNames_ev (belowOf l c).1 (by omega)) (Ev.pos rfl (Ev.pos rfl (Ev.pos (by rw [beq_self_eq_true]) (Ev.pos rfl (Ev.pos rfl ?_))))))))
    simp only [beq_self_eq_true]
    exact Ev.now _
end Go.Proofs.Ytdljclokenoogaa.Hw
end
section
namespace Go.Proofs.Ytdljclokenoogaa.Hw
open Go.RowKit Go.Proofs.Ytdljclokenoogaa.Hp Go.Proofs.YtdljclokenoogaaW.PrintWords Go.Proofs.YtdljclokenoogaaW.PrintLast Go.Proofs.YtdljclokenoogaaW.PrintMore
section
variable {H : Type} (enc : TypeId × Value → H) (W : World)
def Rd {α : Type} (d : Kd α) (t : TypeId) (n : Nat) : Prop := ∀ cs x, DataW.trod enc Try.prog W 0 (fun _ => true) true n t cs = some x → ∃ a : α, d.K W a cs
variable {enc W} {cs : List Value} {n : Nat} {t : TypeId}
theorem rd_fields {fs : Array Field} {x : DataW H × List MemPlace} (ht : Try.prog.underlying t = some (.struct fs)) (h : DataW.trod enc Try.prog W 0 (fun _ => true) true n t cs = some x) :
    ∃ m, n = m + 1 ∧ cs.length = Try.prog.cellsOf t ∧ ∀ (i : Nat) (f : Field), fs[i]? = some f → ∃ y, DataW.trod enc Try.prog W 0 (fun _ => true) true m f.type ((cs.drop f.offset).take (Try.prog.cellsOf f.type)) = some y := by
  obtain ⟨xs, m, rfl, _, hl, hx, hf⟩ := DataW.trod_struct ht h
  refine ⟨m, rfl, hl, fun i f hi => ?_⟩
  have hlt := (Array.getElem?_eq_some_iff.1 hi).1
  exact ⟨_, (hf i f hi).trans (List.getElem?_eq_getElem (by omega))⟩
theorem rd_at {α : Type} {d : Kd α} {k o : Nat} (hc : Try.prog.cellsOf t = k) (hr : Rd enc W d t n) (h : ∃ y, DataW.trod enc Try.prog W 0 (fun _ => true) true n t ((cs.drop o).take (Try.prog.cellsOf t)) = some y) : ∃ a, d.K W a ((cs.drop o).take k) := by
  obtain ⟨y, hy⟩ := h
  rw [hc] at hy
  exact hr _ _ hy
theorem rd_string (ht : Try.prog.underlying t = some .string) : Rd enc W Kd.string t n := fun cs x h => by
  obtain ⟨s, rfl, _⟩ := DataW.trod_string ht h
  exact ⟨s, rfl⟩
theorem rd_bool (ht : Try.prog.underlying t = some .bool) : Rd enc W Kd.bool t n := fun cs x h => by
  obtain ⟨s, rfl, _⟩ := DataW.trod_bool ht h
  exact ⟨s, rfl⟩
theorem rd_int (ht : Try.prog.underlying t = some (.int .i64)) : Rd enc W (Kd.int .i64) t n := fun cs x h => by
  obtain ⟨s, rfl, _⟩ := DataW.trod_int ht h
  exact ⟨s, rfl⟩
theorem rd_pair {α β : Type} {a : Kd α} {b : Kd β} {i k m : Nat} (h1 : ∃ x, a.K W x ((cs.drop i).take k)) (h2 : ∃ x, b.K W x ((cs.drop (i + k)).take m)) : ∃ x, (Kd.pair a b).K W x ((cs.drop i).take (k + m)) := by
  obtain ⟨x, hx⟩ := h1
  obtain ⟨y, hy⟩ := h2
  refine ⟨(x, y), _, _, ?_, hx, hy⟩
  rw [List.take_add, List.drop_drop]
theorem rd_all {α : Type} {d : Kd α} {k : Nat} (hl : cs.length = k) (h : ∃ x, d.K W x ((cs.drop 0).take k)) : ∃ x, d.K W x cs := by
  rw [List.drop_zero, List.take_of_length_le (Nat.le_of_eq hl)] at h
  exact h
theorem rd_slice {α : Type} {d : Kd α} {e : TypeId} (ht : Try.prog.underlying t = some (.slice e)) (hc : Try.prog.cellsOf e = d.sz) (hd : ∀ j, j < n → Rd enc W d e j) : Rd enc W (Kd.slice e d) t n := fun cs x h => by
  rcases DataW.trod_slice ht h with ⟨rfl, _⟩ | ⟨a, len, cap, elems, rest, m, rfl, rfl, _, _, hl, hm, hlen, hel, _, _⟩
  · exact ⟨[], none, 0, rfl, Nat.le_refl _, Kd.C_nil _ _⟩
  · have each : ∀ i, i < len → ∃ (p : α) (c : List Value), d.K W p c ∧ W.cells? 0 (a.add (i * d.sz)) d.sz = some c := by
      intro i hi
      have h1 := hel i hi
      rw [List.getElem?_eq_getElem (by omega), hc, Option.bind_eq_some_iff] at h1
      obtain ⟨c, hc1, hc2⟩ := h1
      obtain ⟨p, hp⟩ := hd m (by omega) _ _ hc2
      exact ⟨p, c, hp, hc1⟩
    let xs : List α := List.ofFn (fun i : Fin len => (each i.1 i.2).choose)
    have hxs : xs.length = len := List.length_ofFn
    refine ⟨xs, some a, cap, by rw [hxs], by rw [hxs]; exact hl, rfl, by rw [hxs]; simp only [maxLen] at hm; omega, fun _ => ⟨a, rfl, fun j p hj => ?_⟩⟩
    have hjl : j < len := by have := (List.getElem?_eq_some_iff.1 hj).1; omega
    have hp : p = (each j hjl).choose := by
      have h2 := (List.getElem?_eq_some_iff.1 hj).2
      rw [← h2]
      show (List.ofFn _)[j] = _
      rw [List.getElem_ofFn]
    obtain ⟨c, hK, hcell⟩ := (each j hjl).choose_spec
    rw [← hp] at hK
    refine ⟨c, d.K_len hK, hK, fun i u hu => ?_⟩
    have hi : i < d.sz := by have := (List.getElem?_eq_some_iff.1 hu).1; have h3 := d.K_len hK; omega
    unfold World.cells? at hcell
    rw [if_pos (Nat.zero_le _)] at hcell
    have h4 := mapM_some_get hcell i i (by simp [hi])
    rw [Addr.add_add] at h4
    exact h4.trans hu
end
section
variable {H : Type} {enc : TypeId × Value → H} {W : World}
theorem rd185 : ∀ n, Rd enc W k185 185 n := by
  intro n
  intro cs x h
  obtain ⟨m, rfl, hl, hf⟩ := rd_fields Try.underlying185 h
  rw [show Try.prog.cellsOf 185 = 2 by kernel_rfl] at hl
  have g0 : ∃ a, Kd.string.K W a ((cs.drop 0).take 1) := rd_at (by kernel_rfl) (rd_string Try.underlying9) (hf 0 _ rfl)
  have g1 : ∃ a, Kd.string.K W a ((cs.drop 1).take 1) := rd_at (by kernel_rfl) (rd_string Try.underlying9) (hf 1 _ rfl)
  obtain ⟨c, hc⟩ := rd_all hl (rd_pair g0 g1)
  exact ⟨⟨c.1, c.2⟩, hc⟩
theorem fold188 {x : S188} {cs : List Value} (h : (F188 k188).K W x cs) : k188.K W x cs := by
  obtain ⟨_, _, rfl, rfl, ⟨_, _, rfl, rfl, ⟨_, _, rfl, ⟨A2, c2, rfl, l2, g2⟩, ⟨_, _, rfl, rfl, rfl⟩⟩⟩⟩ := h
  exact k188_mk W x l2 g2
theorem rd188 : ∀ n, Rd enc W k188 188 n := by
  intro n
  induction n using Nat.strongRecOn with
  | _ n ih =>
  intro cs x h
  obtain ⟨m, rfl, hl, hf⟩ := rd_fields Try.underlying188 h
  rw [show Try.prog.cellsOf 188 = 5 by kernel_rfl] at hl
  have g0 : ∃ a, (Kd.int .i64).K W a ((cs.drop 0).take 1) := rd_at (by kernel_rfl) (rd_int Try.underlying3) (hf 0 _ rfl)
  have g1 : ∃ a, Kd.string.K W a ((cs.drop 1).take 1) := rd_at (by kernel_rfl) (rd_string Try.underlying9) (hf 1 _ rfl)
  have g2 : ∃ a, (Kd.slice 188 k188).K W a ((cs.drop 2).take 1) := rd_at (by kernel_rfl) (rd_slice Try.underlying62 (by kernel_rfl) (fun j hj => ih j (by omega))) (hf 2 _ rfl)
  have g3 : ∃ a, Kd.bool.K W a ((cs.drop 3).take 1) := rd_at (by kernel_rfl) (rd_bool Try.underlying4) (hf 3 _ rfl)
  have g4 : ∃ a, Kd.bool.K W a ((cs.drop 4).take 1) := rd_at (by kernel_rfl) (rd_bool Try.underlying4) (hf 4 _ rfl)
  obtain ⟨c, hc⟩ := rd_all hl (rd_pair g0 (rd_pair g1 (rd_pair g2 (rd_pair g3 g4))))
  exact ⟨⟨c.1, c.2.1, c.2.2.1, c.2.2.2.1, c.2.2.2.2⟩, fold188 hc⟩
theorem rd198 : ∀ n, Rd enc W k198 198 n := by
  intro n
  intro cs x h
  obtain ⟨m, rfl, hl, hf⟩ := rd_fields Try.underlying198 h
  rw [show Try.prog.cellsOf 198 = 2 by kernel_rfl] at hl
  have g0 : ∃ a, Kd.string.K W a ((cs.drop 0).take 1) := rd_at (by kernel_rfl) (rd_string Try.underlying9) (hf 0 _ rfl)
  have g1 : ∃ a, Kd.string.K W a ((cs.drop 1).take 1) := rd_at (by kernel_rfl) (rd_string Try.underlying9) (hf 1 _ rfl)
  obtain ⟨c, hc⟩ := rd_all hl (rd_pair g0 g1)
  exact ⟨⟨c.1, c.2⟩, hc⟩
theorem rd65 : ∀ n, Rd enc W k65 65 n := by
  intro n
  intro cs x h
  obtain ⟨m, rfl, hl, hf⟩ := rd_fields Try.underlying65 h
  rw [show Try.prog.cellsOf 65 = 6 by kernel_rfl] at hl
  have g0 : ∃ a, Kd.string.K W a ((cs.drop 0).take 1) := rd_at (by kernel_rfl) (rd_string Try.underlying9) (hf 0 _ rfl)
  have g1 : ∃ a, (Kd.slice 188 k188).K W a ((cs.drop 1).take 1) := rd_at (by kernel_rfl) (rd_slice Try.underlying62 (by kernel_rfl) (fun j hj => rd188 j)) (hf 1 _ rfl)
  have g2 : ∃ a, (Kd.slice 198 k198).K W a ((cs.drop 2).take 1) := rd_at (by kernel_rfl) (rd_slice Try.underlying63 (by kernel_rfl) (fun j hj => rd198 j)) (hf 2 _ rfl)
  have g3 : ∃ a, (Kd.slice 9 Kd.string).K W a ((cs.drop 3).take 1) := rd_at (by kernel_rfl) (rd_slice Try.underlying25 (by kernel_rfl) (fun j hj => rd_string Try.underlying9)) (hf 3 _ rfl)
  have g4 : ∃ a, (Kd.slice 9 Kd.string).K W a ((cs.drop 4).take 1) := rd_at (by kernel_rfl) (rd_slice Try.underlying25 (by kernel_rfl) (fun j hj => rd_string Try.underlying9)) (hf 4 _ rfl)
  have g5 : ∃ a, (Kd.slice 9 Kd.string).K W a ((cs.drop 5).take 1) := rd_at (by kernel_rfl) (rd_slice Try.underlying25 (by kernel_rfl) (fun j hj => rd_string Try.underlying9)) (hf 5 _ rfl)
  obtain ⟨c, hc⟩ := rd_all hl (rd_pair g0 (rd_pair g1 (rd_pair g2 (rd_pair g3 (rd_pair g4 g5)))))
  exact ⟨⟨c.1, c.2.1, c.2.2.1, c.2.2.2.1, c.2.2.2.2.1, c.2.2.2.2.2⟩, hc⟩
theorem rd201 : ∀ n, Rd enc W k201 201 n := by
  intro n
  intro cs x h
  obtain ⟨m, rfl, hl, hf⟩ := rd_fields Try.underlying201 h
  rw [show Try.prog.cellsOf 201 = 6 by kernel_rfl] at hl
  have g0 : ∃ a, Kd.string.K W a ((cs.drop 0).take 1) := rd_at (by kernel_rfl) (rd_string Try.underlying9) (hf 0 _ rfl)
  have g1 : ∃ a, k188.K W a ((cs.drop 1).take 5) := rd_at (by kernel_rfl) (rd188 m) (hf 1 _ rfl)
  obtain ⟨c, hc⟩ := rd_all hl (rd_pair g0 g1)
  exact ⟨⟨c.1, c.2⟩, hc⟩
theorem fold194 {x : S194} {cs : List Value} (h : (F194 k194).K W x cs) : k194.K W x cs := by
  obtain ⟨_, _, rfl, rfl, ⟨_, _, rfl, rfl, ⟨_, _, rfl, rfl, ⟨A3, c3, rfl, l3, g3⟩⟩⟩⟩ := h
  exact k194_mk W x l3 g3
theorem rd194 : ∀ n, Rd enc W k194 194 n := by
  intro n
  induction n using Nat.strongRecOn with
  | _ n ih =>
  intro cs x h
  obtain ⟨m, rfl, hl, hf⟩ := rd_fields Try.underlying194 h
  rw [show Try.prog.cellsOf 194 = 4 by kernel_rfl] at hl
  have g0 : ∃ a, (Kd.int .i64).K W a ((cs.drop 0).take 1) := rd_at (by kernel_rfl) (rd_int Try.underlying3) (hf 0 _ rfl)
  have g1 : ∃ a, Kd.string.K W a ((cs.drop 1).take 1) := rd_at (by kernel_rfl) (rd_string Try.underlying9) (hf 1 _ rfl)
  have g2 : ∃ a, (Kd.int .i64).K W a ((cs.drop 2).take 1) := rd_at (by kernel_rfl) (rd_int Try.underlying3) (hf 2 _ rfl)
  have g3 : ∃ a, (Kd.slice 194 k194).K W a ((cs.drop 3).take 1) := rd_at (by kernel_rfl) (rd_slice Try.underlying192 (by kernel_rfl) (fun j hj => ih j (by omega))) (hf 3 _ rfl)
  obtain ⟨c, hc⟩ := rd_all hl (rd_pair g0 (rd_pair g1 (rd_pair g2 g3)))
  exact ⟨⟨c.1, c.2.1, c.2.2.1, c.2.2.2⟩, fold194 hc⟩
theorem rd196 : ∀ n, Rd enc W k196 196 n := by
  intro n
  intro cs x h
  obtain ⟨m, rfl, hl, hf⟩ := rd_fields Try.underlying196 h
  rw [show Try.prog.cellsOf 196 = 5 by kernel_rfl] at hl
  have g0 : ∃ a, Kd.string.K W a ((cs.drop 0).take 1) := rd_at (by kernel_rfl) (rd_string Try.underlying9) (hf 0 _ rfl)
  have g1 : ∃ a, k194.K W a ((cs.drop 1).take 4) := rd_at (by kernel_rfl) (rd194 m) (hf 1 _ rfl)
  obtain ⟨c, hc⟩ := rd_all hl (rd_pair g0 g1)
  exact ⟨⟨c.1, c.2⟩, hc⟩
theorem fold203 {x : S203} {cs : List Value} (h : (F203 k203).K W x cs) : k203.K W x cs := by
  obtain ⟨_, _, rfl, rfl, ⟨_, _, rfl, rfl, ⟨_, _, rfl, rfl, ⟨_, _, rfl, ⟨A3, c3, rfl, l3, g3⟩, ⟨_, _, rfl, ⟨A4, c4, rfl, l4, g4⟩, ⟨_, _, rfl, ⟨A5, c5, rfl, l5, g5⟩, ⟨_, _, rfl, ⟨A6, c6, rfl, l6, g6⟩, ⟨A7, c7, rfl, l7, g7⟩⟩⟩⟩⟩⟩⟩⟩ := h
  exact k203_mk W x l3 g3 l4 g4 l5 g5 l6 g6 l7 g7
theorem rd203 : ∀ n, Rd enc W k203 203 n := by
  intro n
  induction n using Nat.strongRecOn with
  | _ n ih =>
  intro cs x h
  obtain ⟨m, rfl, hl, hf⟩ := rd_fields Try.underlying203 h
  rw [show Try.prog.cellsOf 203 = 8 by kernel_rfl] at hl
  have g0 : ∃ a, (Kd.int .i64).K W a ((cs.drop 0).take 1) := rd_at (by kernel_rfl) (rd_int Try.underlying3) (hf 0 _ rfl)
  have g1 : ∃ a, Kd.string.K W a ((cs.drop 1).take 1) := rd_at (by kernel_rfl) (rd_string Try.underlying9) (hf 1 _ rfl)
  have g2 : ∃ a, (Kd.int .i64).K W a ((cs.drop 2).take 1) := rd_at (by kernel_rfl) (rd_int Try.underlying3) (hf 2 _ rfl)
  have g3 : ∃ a, (Kd.slice 194 k194).K W a ((cs.drop 3).take 1) := rd_at (by kernel_rfl) (rd_slice Try.underlying192 (by kernel_rfl) (fun j hj => rd194 j)) (hf 3 _ rfl)
  have g4 : ∃ a, (Kd.slice 196 k196).K W a ((cs.drop 4).take 1) := rd_at (by kernel_rfl) (rd_slice Try.underlying59 (by kernel_rfl) (fun j hj => rd196 j)) (hf 4 _ rfl)
  have g5 : ∃ a, (Kd.slice 203 k203).K W a ((cs.drop 5).take 1) := rd_at (by kernel_rfl) (rd_slice Try.underlying189 (by kernel_rfl) (fun j hj => ih j (by omega))) (hf 5 _ rfl)
  have g6 : ∃ a, (Kd.slice 203 k203).K W a ((cs.drop 6).take 1) := rd_at (by kernel_rfl) (rd_slice Try.underlying189 (by kernel_rfl) (fun j hj => ih j (by omega))) (hf 6 _ rfl)
  have g7 : ∃ a, (Kd.slice 203 k203).K W a ((cs.drop 7).take 1) := rd_at (by kernel_rfl) (rd_slice Try.underlying189 (by kernel_rfl) (fun j hj => ih j (by omega))) (hf 7 _ rfl)
  obtain ⟨c, hc⟩ := rd_all hl (rd_pair g0 (rd_pair g1 (rd_pair g2 (rd_pair g3 (rd_pair g4 (rd_pair g5 (rd_pair g6 g7)))))))
  exact ⟨⟨c.1, c.2.1, c.2.2.1, c.2.2.2.1, c.2.2.2.2.1, c.2.2.2.2.2.1, c.2.2.2.2.2.2.1, c.2.2.2.2.2.2.2⟩, fold203 hc⟩
theorem rd191 : ∀ n, Rd enc W k191 191 n := by
  intro n
  intro cs x h
  obtain ⟨m, rfl, hl, hf⟩ := rd_fields Try.underlying191 h
  rw [show Try.prog.cellsOf 191 = 15 by kernel_rfl] at hl
  have g0 : ∃ a, (Kd.int .i64).K W a ((cs.drop 0).take 1) := rd_at (by kernel_rfl) (rd_int Try.underlying3) (hf 0 _ rfl)
  have g1 : ∃ a, Kd.string.K W a ((cs.drop 1).take 1) := rd_at (by kernel_rfl) (rd_string Try.underlying9) (hf 1 _ rfl)
  have g2 : ∃ a, (Kd.slice 9 Kd.string).K W a ((cs.drop 2).take 1) := rd_at (by kernel_rfl) (rd_slice Try.underlying25 (by kernel_rfl) (fun j hj => rd_string Try.underlying9)) (hf 2 _ rfl)
  have g3 : ∃ a, (Kd.slice 201 k201).K W a ((cs.drop 3).take 1) := rd_at (by kernel_rfl) (rd_slice Try.underlying186 (by kernel_rfl) (fun j hj => rd201 j)) (hf 3 _ rfl)
  have g4 : ∃ a, k188.K W a ((cs.drop 4).take 5) := rd_at (by kernel_rfl) (rd188 m) (hf 4 _ rfl)
  have g5 : ∃ a, (Kd.slice 201 k201).K W a ((cs.drop 9).take 1) := rd_at (by kernel_rfl) (rd_slice Try.underlying186 (by kernel_rfl) (fun j hj => rd201 j)) (hf 5 _ rfl)
  have g6 : ∃ a, (Kd.slice 196 k196).K W a ((cs.drop 10).take 1) := rd_at (by kernel_rfl) (rd_slice Try.underlying59 (by kernel_rfl) (fun j hj => rd196 j)) (hf 6 _ rfl)
  have g7 : ∃ a, (Kd.slice 196 k196).K W a ((cs.drop 11).take 1) := rd_at (by kernel_rfl) (rd_slice Try.underlying59 (by kernel_rfl) (fun j hj => rd196 j)) (hf 7 _ rfl)
  have g8 : ∃ a, (Kd.slice 203 k203).K W a ((cs.drop 12).take 1) := rd_at (by kernel_rfl) (rd_slice Try.underlying189 (by kernel_rfl) (fun j hj => rd203 j)) (hf 8 _ rfl)
  have g9 : ∃ a, (Kd.slice 203 k203).K W a ((cs.drop 13).take 1) := rd_at (by kernel_rfl) (rd_slice Try.underlying189 (by kernel_rfl) (fun j hj => rd203 j)) (hf 9 _ rfl)
  have g10 : ∃ a, Kd.bool.K W a ((cs.drop 14).take 1) := rd_at (by kernel_rfl) (rd_bool Try.underlying4) (hf 10 _ rfl)
  obtain ⟨c, hc⟩ := rd_all hl (rd_pair g0 (rd_pair g1 (rd_pair g2 (rd_pair g3 (rd_pair g4 (rd_pair g5 (rd_pair g6 (rd_pair g7 (rd_pair g8 (rd_pair g9 g10))))))))))
  exact ⟨⟨c.1, c.2.1, c.2.2.1, c.2.2.2.1, c.2.2.2.2.1, c.2.2.2.2.2.1, c.2.2.2.2.2.2.1, c.2.2.2.2.2.2.2.1, c.2.2.2.2.2.2.2.2.1, c.2.2.2.2.2.2.2.2.2.1, c.2.2.2.2.2.2.2.2.2.2⟩, hc⟩
theorem rd61 : ∀ n, Rd enc W k61 61 n := by
  intro n
  intro cs x h
  obtain ⟨m, rfl, hl, hf⟩ := rd_fields Try.underlying61 h
  rw [show Try.prog.cellsOf 61 = 7 by kernel_rfl] at hl
  have g0 : ∃ a, Kd.string.K W a ((cs.drop 0).take 1) := rd_at (by kernel_rfl) (rd_string Try.underlying9) (hf 0 _ rfl)
  have g1 : ∃ a, Kd.bool.K W a ((cs.drop 1).take 1) := rd_at (by kernel_rfl) (rd_bool Try.underlying4) (hf 1 _ rfl)
  have g2 : ∃ a, (Kd.slice 185 k185).K W a ((cs.drop 2).take 1) := rd_at (by kernel_rfl) (rd_slice Try.underlying56 (by kernel_rfl) (fun j hj => rd185 j)) (hf 2 _ rfl)
  have g3 : ∃ a, (Kd.slice 65 k65).K W a ((cs.drop 3).take 1) := rd_at (by kernel_rfl) (rd_slice Try.underlying57 (by kernel_rfl) (fun j hj => rd65 j)) (hf 3 _ rfl)
  have g4 : ∃ a, (Kd.slice 9 Kd.string).K W a ((cs.drop 4).take 1) := rd_at (by kernel_rfl) (rd_slice Try.underlying25 (by kernel_rfl) (fun j hj => rd_string Try.underlying9)) (hf 4 _ rfl)
  have g5 : ∃ a, (Kd.slice 191 k191).K W a ((cs.drop 5).take 1) := rd_at (by kernel_rfl) (rd_slice Try.underlying58 (by kernel_rfl) (fun j hj => rd191 j)) (hf 5 _ rfl)
  have g6 : ∃ a, (Kd.slice 196 k196).K W a ((cs.drop 6).take 1) := rd_at (by kernel_rfl) (rd_slice Try.underlying59 (by kernel_rfl) (fun j hj => rd196 j)) (hf 6 _ rfl)
  obtain ⟨c, hc⟩ := rd_all hl (rd_pair g0 (rd_pair g1 (rd_pair g2 (rd_pair g3 (rd_pair g4 (rd_pair g5 g6))))))
  exact ⟨⟨c.1, c.2.1, c.2.2.1, c.2.2.2.1, c.2.2.2.2.1, c.2.2.2.2.2.1, c.2.2.2.2.2.2⟩, hc⟩
theorem trod_classes {d : DataW H} {p : List MemPlace} {A : Option Addr} {len cap : Nat} (h : DataW.Trod enc Try.prog W 0 (fun _ => true) true 22 (.slice A len cap) d p) : ∃ l : List S61, len = l.length ∧ len ≤ cap ∧ k61.C W A l.length l := by
  obtain ⟨n, hn⟩ := h
  obtain ⟨l, A', c, he, hl, hC⟩ := rd_slice (n := n) Try.underlying22 (by kernel_rfl) (fun j _ => rd61 (enc := enc) (W := W) j) _ _ hn
  injection he with he _
  injection he with h1 h2 h3
  subst h1; subst h2; subst h3
  exact ⟨l, rfl, hl, hC⟩
end
end Go.Proofs.Ytdljclokenoogaa.Hw
end
section
namespace Go.Proofs.Ytdljclokenoogaa.Hw
open Go.RowKit Go.Proofs.Ytdljclokenoogaa.Hp Go.Proofs.YtdljclokenoogaaW.PrintWords Go.Proofs.YtdljclokenoogaaW.PrintLast Go.Proofs.YtdljclokenoogaaW.PrintMore
section
variable {H : Type} {enc : TypeId × Value → H} {W : World}
theorem weights_slice {P : Program} {t e : TypeId} (ht : P.underlying t = some (.slice e)) (xs ys : List (DataW H)) : (DataW.slice xs ys).weights P t = (xs.length + ys.length) * P.bytesOf e :: (DataW.weightsAll P e xs ++ DataW.weightsAll P e ys) := by
  rw [DataW.weights, ht]
theorem slice_weight {P : Program} {t e : TypeId} {cs : List Value} {n : Nat} {x : DataW H × List MemPlace} {A : Option Addr} {len cap : Nat} (ht : P.underlying t = some (.slice e)) (hcs : cs = [.slice A len cap]) (h : DataW.trod enc P W 0 (fun _ => true) true n t cs = some x)
    (hw : ∀ m ∈ x.1.weights P t, m ≤ reachBytes) : len * P.bytesOf e ≤ reachBytes := by
  subst hcs
  rcases DataW.trod_slice ht h with ⟨h1, _⟩ | ⟨a, len', cap', elems, rest, m, rfl, h1, rfl, _, _, _, hlen, _, _, _⟩
  · injection h1 with h1 _
    injection h1 with _ h2 _
    subst h2; simp
  · injection h1 with h1 _
    injection h1 with _ h2 _
    subst h2
    rw [weights_slice ht] at hw
    have hw' := hw _ (List.mem_cons_self ..)
    rw [List.length_map, List.length_map] at hw'
    exact Nat.le_trans (Nat.mul_le_mul_right _ (by omega)) hw'
theorem trod_len {ts : List TypeId} {ds : List (DataW H)} {j : Nat} {d : DataW H} {p : List MemPlace} {A : Option Addr} {len cap : Nat} (hsz : (DataW.weightsEach Try.prog ts ds).all (· ≤ reachBytes) = true) (ht : ts[j]? = some 22) (hd : ds[j]? = some d)
    (h : DataW.Trod enc Try.prog W 0 (fun _ => true) true 22 (.slice A len cap) d p) : len ≤ 1100000000000 := by
  obtain ⟨n, hn⟩ := h
  have h4 := slice_weight (enc := enc) (W := W) (e := 61) Try.underlying22 rfl hn (fun m hm => by
    have := List.all_eq_true.1 hsz m (DataW.weights_mem_each ht hd m hm)
    simpa using this)
  rw [show Try.prog.bytesOf 61 = 144 by kernel_rfl] at h4
  unfold reachBytes at h4
  omega
end
end Go.Proofs.Ytdljclokenoogaa.Hw
end
section
namespace Go.Proofs.Ytdljclokenoogaa.heirAncestors
open Go.ChangeShapes Go.WideShapes Go.ChangeAt Go.RowKit Go.Proofs.Ytdljclokenoogaa.Hw
open Go.ChangeMaps (open_string shut_string)
set_option linter.unusedVariables false
theorem own : ownKnob Try.prog.godebug = none := by kernel_rfl
theorem laidOut : laidOutB Try.prog = true := by kernel_rfl
set_option maxRecDepth 100000 in
theorem lifted (os : Os) (started : os.Started) (H : Type) (enc : TypeId × Value → H) :
    ReturnsInHanded {} Try.checked os 10 .any (Rows.heirAncestorsSpec.pre6 enc Try.prog Try.f10 Rows.heirAncestorsRow.domain false) (Rows.heirAncestorsSpec.post enc Try.prog Try.f10 false true false false) := by
  refine returnsInHanded_of_change_sized (C := Try.checked) own started (by kernel_rfl) Try.func10
    (ChangeSpec.witness6 (enc := enc) (C := Try.checked) false ⟨#[], #[.slice none 0 0, .string ByteArray.empty, .string ByteArray.empty], []⟩ 8 (by kernel_rfl) (by kernel_rfl) (by kernel_rfl) (by kernel_rfl)) ?_
  intro W base args ds gs before hval0 hW hcnd hsz0 _
  have hsz : (DataW.weightsEach Try.prog (Try.f10.params.toList ++ Rows.heirAncestorsSpec.plain.varTypes Try.prog) (ds ++ gs)).all (· ≤ reachBytes) = true := hsz0
  have hval : ∀ (j : Nat) t v, Try.f10.params[j]? = some t → args[j]? = some v → Value.okWide Try.prog W .any base t v := hval0
  have hW' := hW
  obtain ⟨p, q, hA0, hV, rfl, hfz, hnd⟩ := hW
  have hA : DataW.TrodAll enc Try.prog W 0 (fun _ => true) true Try.f10.params.toList args.toList ds p := hA0
  rw [Try.params10] at hA hval hsz
  obtain ⟨v0, vs0, d0, ds0, p0, q0, hargs, rfl, rfl, h0, r0⟩ := trodAll_cons hA
  obtain ⟨v1, vs1, d1, ds1, p1, q1, rfl, rfl, rfl, h1, r1⟩ := trodAll_cons r0
  obtain ⟨v2, vs2, d2, ds2, p2, q2, rfl, rfl, rfl, h2, r2⟩ := trodAll_cons r1
  obtain ⟨rfl, rfl, rfl⟩ := trodAll_nil r2
  obtain rfl : args = #[v0, v1, v2] := by cases args; simp_all
  obtain ⟨rfl, rfl⟩ := trodVars_none hV
  obtain ⟨b0, len0, cap0, rfl⟩ := okWide_slice Try.underlying22 (hval 0 22 v0 rfl rfl)
  have k0 := h0
  have lt0 : ∀ x ∈ p0, x.block < W.heap.size := by obtain ⟨m, hm⟩ := k0; exact DataW.trod_lt m _ _ _ hm
  have ln0 := trod_len hsz (j := 0) rfl rfl h0
  obtain ⟨l0, rfl, hc0, hC0⟩ := trod_classes h0
  obtain ⟨a1, rfl, rfl, rfl, y1⟩ := open_string Try.underlying9 (hval 1 9 v1 rfl rfl) h1
  obtain ⟨a2, rfl, rfl, rfl, y2⟩ := open_string Try.underlying9 (hval 2 9 v2 rfl rfl) h2
  obtain ⟨kf, hkf⟩ := pure_ancestors l0 a1 a2 (by omega)
  clear hA0 hval0 hsz0 hsz
  refine (Hp.cosignerlaw03_HeirAncestors.calls kf b0 cap0 l0 a1 a2 true rfl W hC0 hc0 (hkf)).mono fun e W' ⟨he, bel⟩ => ?_
  subst he
  exact ⟨_, rfl, _, _, _, [], _, [], hW', trodAll_mk1 (shut_bool Try.underlying4 _), (trodAll_cons_mk (Below.trod laidOut (by kernel_rfl) (of_decide_eq_true (by kernel_rfl)) k0 bel lt0) (trodAll_cons_mk (shut_string Try.underlying9 y1) (trodAll_cons_mk (shut_string Try.underlying9 y2) trodAll_mk0))), rfl, bel.frame _, fun h => by cases h⟩
theorem over : Rows.heirAncestorsRow.holds Try.pinned (OpenSpec.ofChange Rows.heirAncestorsSpec) :=
  OpenClaim.holds_of_wide 10 Try.f10 rfl rfl rfl rfl rfl rfl rfl ⟨rfl, rfl, rfl, rfl, rfl⟩ rfl rfl rfl rfl rfl (by kernel_rfl) Try.func10 (by kernel_rfl)
    (of_decide_eq_true (by kernel_rfl)) (by unfold Func.isWrapper; first | (rw [if_pos (by decide +kernel)]; kernel_rfl) | (rw [if_neg (by decide +kernel)]; exact ⟨rfl, rfl⟩))
    (fun os started H enc _ => lifted os started H enc)
theorem proved : Rows.HeirAncestorsSaid := over
#print axioms proved
end Go.Proofs.Ytdljclokenoogaa.heirAncestors
namespace Go.Proofs.Ytdljclokenoogaa
theorem heirAncestors_holds : Rows.HeirAncestorsSaid := heirAncestors.proved
end Go.Proofs.Ytdljclokenoogaa
end
