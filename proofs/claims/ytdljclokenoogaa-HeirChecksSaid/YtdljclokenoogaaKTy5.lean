/-
  Part 5 (Ty) of the proof: walks of functions and plain facts.
-/
import Derived.ChangeArms
import Derived.ChangeSlices
import Derived.SizedLaws
import Derived.Test.YtdljclokenoogaaRows
import Derived.WalkKit
import Derived.ProofKit
import Derived.OpenShut
import Derived.ShutString
import Derived.ChangeOld
import Derived.Below
import Derived.Test.YtdljclokenoogaaKTy4
set_option linter.unusedVariables false
set_option linter.unusedSimpArgs false
section
namespace Go.Proofs.Ytdljclokenoogaa.Hw
open Go.RowKit Go.Proofs.Ytdljclokenoogaa.Hp Go.Proofs.YtdljclokenoogaaW.PrintWords Go.Proofs.YtdljclokenoogaaW.PrintLast Go.Proofs.YtdljclokenoogaaW.PrintMore
section
variable {H : Type} (enc : TypeId × Value → H) (W : World)
def Rd {α : Type} (d : Kd α) (t : TypeId) (n : Nat) : Prop := ∀ cs x, DataW.trod enc Try.prog W 0 (fun _ => true) true n t cs = some x → ∃ a : α, d.K W a cs
variable {enc W} {cs : List Value} {n : Nat} {t : TypeId}
theorem rd_fields {fs : Array Field} {x : DataW H × List MemPlace} (ht : Try.prog.underlying t = some (.struct fs)) (h : DataW.trod enc Try.prog W 0 (fun _ => true) true n t cs = some x) :
    ∃ m, n = m + 1 ∧ cs.length = Try.prog.cellsOf t ∧ ∀ (i : Nat) (f : Field), fs[i]? = some f → ∃ y, DataW.trod enc Try.prog W 0 (fun _ => true) true m f.type ((cs.drop f.offset).take (Try.prog.cellsOf f.type)) = some y := by
  obtain ⟨xs, m, rfl, _, hl, hx, hf⟩ := DataW.trod_struct ht h
  refine ⟨m, rfl, hl, fun i f hi => ?_⟩
  have hlt := (Array.getElem?_eq_some_iff.1 hi).1
  exact ⟨_, (hf i f hi).trans (List.getElem?_eq_getElem (by omega))⟩
theorem rd_at {α : Type} {d : Kd α} {k o : Nat} (hc : Try.prog.cellsOf t = k) (hr : Rd enc W d t n) (h : ∃ y, DataW.trod enc Try.prog W 0 (fun _ => true) true n t ((cs.drop o).take (Try.prog.cellsOf t)) = some y) : ∃ a, d.K W a ((cs.drop o).take k) := by
  obtain ⟨y, hy⟩ := h
  rw [hc] at hy
  exact hr _ _ hy
theorem rd_string (ht : Try.prog.underlying t = some .string) : Rd enc W Kd.string t n := fun cs x h => by
  obtain ⟨s, rfl, _⟩ := DataW.trod_string ht h
  exact ⟨s, rfl⟩
theorem rd_bool (ht : Try.prog.underlying t = some .bool) : Rd enc W Kd.bool t n := fun cs x h => by
  obtain ⟨s, rfl, _⟩ := DataW.trod_bool ht h
  exact ⟨s, rfl⟩
theorem rd_int (ht : Try.prog.underlying t = some (.int .i64)) : Rd enc W (Kd.int .i64) t n := fun cs x h => by
  obtain ⟨s, rfl, _⟩ := DataW.trod_int ht h
  exact ⟨s, rfl⟩
theorem rd_pair {α β : Type} {a : Kd α} {b : Kd β} {i k m : Nat} (h1 : ∃ x, a.K W x ((cs.drop i).take k)) (h2 : ∃ x, b.K W x ((cs.drop (i + k)).take m)) : ∃ x, (Kd.pair a b).K W x ((cs.drop i).take (k + m)) := by
  obtain ⟨x, hx⟩ := h1
  obtain ⟨y, hy⟩ := h2
  refine ⟨(x, y), _, _, ?_, hx, hy⟩
  rw [List.take_add, List.drop_drop]
theorem rd_all {α : Type} {d : Kd α} {k : Nat} (hl : cs.length = k) (h : ∃ x, d.K W x ((cs.drop 0).take k)) : ∃ x, d.K W x cs := by
  rw [List.drop_zero, List.take_of_length_le (Nat.le_of_eq hl)] at h
  exact h
theorem rd_slice {α : Type} {d : Kd α} {e : TypeId} (ht : Try.prog.underlying t = some (.slice e)) (hc : Try.prog.cellsOf e = d.sz) (hd : ∀ j, j < n → Rd enc W d e j) : Rd enc W (Kd.slice e d) t n := fun cs x h => by
  rcases DataW.trod_slice ht h with ⟨rfl, _⟩ | ⟨a, len, cap, elems, rest, m, rfl, rfl, _, _, hl, hm, hlen, hel, _, _⟩
  · exact ⟨[], none, 0, rfl, Nat.le_refl _, Kd.C_nil _ _⟩
  · have each : ∀ i, i < len → ∃ (p : α) (c : List Value), d.K W p c ∧ W.cells? 0 (a.add (i * d.sz)) d.sz = some c := by
      intro i hi
      have h1 := hel i hi
      rw [List.getElem?_eq_getElem (by omega), hc, Option.bind_eq_some_iff] at h1
      obtain ⟨c, hc1, hc2⟩ := h1
      obtain ⟨p, hp⟩ := hd m (by omega) _ _ hc2
      exact ⟨p, c, hp, hc1⟩
    let xs : List α := List.ofFn (fun i : Fin len => (each i.1 i.2).choose)
    have hxs : xs.length = len := List.length_ofFn
    refine ⟨xs, some a, cap, by rw [hxs], by rw [hxs]; exact hl, rfl, by rw [hxs]; simp only [maxLen] at hm; omega, fun _ => ⟨a, rfl, fun j p hj => ?_⟩⟩
    have hjl : j < len := by have := (List.getElem?_eq_some_iff.1 hj).1; omega
    have hp : p = (each j hjl).choose := by
      have h2 := (List.getElem?_eq_some_iff.1 hj).2
      rw [← h2]
      show (List.ofFn _)[j] = _
      rw [List.getElem_ofFn]
    obtain ⟨c, hK, hcell⟩ := (each j hjl).choose_spec
    rw [← hp] at hK
    refine ⟨c, d.K_len hK, hK, fun i u hu => ?_⟩
    have hi : i < d.sz := by have := (List.getElem?_eq_some_iff.1 hu).1; have h3 := d.K_len hK; omega
    unfold World.cells? at hcell
    rw [if_pos (Nat.zero_le _)] at hcell
    have h4 := mapM_some_get hcell i i (by simp [hi])
    rw [Addr.add_add] at h4
    exact h4.trans hu
end
section
variable {H : Type} {enc : TypeId × Value → H} {W : World}
theorem rd185 : ∀ n, Rd enc W k185 185 n := by
  intro n
  intro cs x h
  obtain ⟨m, rfl, hl, hf⟩ := rd_fields Try.underlying185 h
  rw [show Try.prog.cellsOf 185 = 2 by kernel_rfl] at hl
  have g0 : ∃ a, Kd.string.K W a ((cs.drop 0).take 1) := rd_at (by kernel_rfl) (rd_string Try.underlying9) (hf 0 _ rfl)
  have g1 : ∃ a, Kd.string.K W a ((cs.drop 1).take 1) := rd_at (by kernel_rfl) (rd_string Try.underlying9) (hf 1 _ rfl)
  obtain ⟨c, hc⟩ := rd_all hl (rd_pair g0 g1)
  exact ⟨⟨c.1, c.2⟩, hc⟩
theorem fold188 {x : S188} {cs : List Value} (h : (F188 k188).K W x cs) : k188.K W x cs := by
  obtain ⟨_, _, rfl, rfl, ⟨_, _, rfl, rfl, ⟨_, _, rfl, ⟨A2, c2, rfl, l2, g2⟩, ⟨_, _, rfl, rfl, rfl⟩⟩⟩⟩ := h
  exact k188_mk W x l2 g2
theorem rd188 : ∀ n, Rd enc W k188 188 n := by
  intro n
  induction n using Nat.strongRecOn with
  | _ n ih =>
  intro cs x h
  obtain ⟨m, rfl, hl, hf⟩ := rd_fields Try.underlying188 h
  rw [show Try.prog.cellsOf 188 = 5 by kernel_rfl] at hl
  have g0 : ∃ a, (Kd.int .i64).K W a ((cs.drop 0).take 1) := rd_at (by kernel_rfl) (rd_int Try.underlying3) (hf 0 _ rfl)
  have g1 : ∃ a, Kd.string.K W a ((cs.drop 1).take 1) := rd_at (by kernel_rfl) (rd_string Try.underlying9) (hf 1 _ rfl)
  have g2 : ∃ a, (Kd.slice 188 k188).K W a ((cs.drop 2).take 1) := rd_at (by kernel_rfl) (rd_slice Try.underlying62 (by kernel_rfl) (fun j hj => ih j (by omega))) (hf 2 _ rfl)
  have g3 : ∃ a, Kd.bool.K W a ((cs.drop 3).take 1) := rd_at (by kernel_rfl) (rd_bool Try.underlying4) (hf 3 _ rfl)
  have g4 : ∃ a, Kd.bool.K W a ((cs.drop 4).take 1) := rd_at (by kernel_rfl) (rd_bool Try.underlying4) (hf 4 _ rfl)
  obtain ⟨c, hc⟩ := rd_all hl (rd_pair g0 (rd_pair g1 (rd_pair g2 (rd_pair g3 g4))))
  exact ⟨⟨c.1, c.2.1, c.2.2.1, c.2.2.2.1, c.2.2.2.2⟩, fold188 hc⟩
theorem rd198 : ∀ n, Rd enc W k198 198 n := by
  intro n
  intro cs x h
  obtain ⟨m, rfl, hl, hf⟩ := rd_fields Try.underlying198 h
  rw [show Try.prog.cellsOf 198 = 2 by kernel_rfl] at hl
  have g0 : ∃ a, Kd.string.K W a ((cs.drop 0).take 1) := rd_at (by kernel_rfl) (rd_string Try.underlying9) (hf 0 _ rfl)
  have g1 : ∃ a, Kd.string.K W a ((cs.drop 1).take 1) := rd_at (by kernel_rfl) (rd_string Try.underlying9) (hf 1 _ rfl)
  obtain ⟨c, hc⟩ := rd_all hl (rd_pair g0 g1)
  exact ⟨⟨c.1, c.2⟩, hc⟩
theorem rd65 : ∀ n, Rd enc W k65 65 n := by
  intro n
  intro cs x h
  obtain ⟨m, rfl, hl, hf⟩ := rd_fields Try.underlying65 h
  rw [show Try.prog.cellsOf 65 = 6 by kernel_rfl] at hl
  have g0 : ∃ a, Kd.string.K W a ((cs.drop 0).take 1) := rd_at (by kernel_rfl) (rd_string Try.underlying9) (hf 0 _ rfl)
  have g1 : ∃ a, (Kd.slice 188 k188).K W a ((cs.drop 1).take 1) := rd_at (by kernel_rfl) (rd_slice Try.underlying62 (by kernel_rfl) (fun j hj => rd188 j)) (hf 1 _ rfl)
  have g2 : ∃ a, (Kd.slice 198 k198).K W a ((cs.drop 2).take 1) := rd_at (by kernel_rfl) (rd_slice Try.underlying63 (by kernel_rfl) (fun j hj => rd198 j)) (hf 2 _ rfl)
  have g3 : ∃ a, (Kd.slice 9 Kd.string).K W a ((cs.drop 3).take 1) := rd_at (by kernel_rfl) (rd_slice Try.underlying25 (by kernel_rfl) (fun j hj => rd_string Try.underlying9)) (hf 3 _ rfl)
  have g4 : ∃ a, (Kd.slice 9 Kd.string).K W a ((cs.drop 4).take 1) := rd_at (by kernel_rfl) (rd_slice Try.underlying25 (by kernel_rfl) (fun j hj => rd_string Try.underlying9)) (hf 4 _ rfl)
  have g5 : ∃ a, (Kd.slice 9 Kd.string).K W a ((cs.drop 5).take 1) := rd_at (by kernel_rfl) (rd_slice Try.underlying25 (by kernel_rfl) (fun j hj => rd_string Try.underlying9)) (hf 5 _ rfl)
  obtain ⟨c, hc⟩ := rd_all hl (rd_pair g0 (rd_pair g1 (rd_pair g2 (rd_pair g3 (rd_pair g4 g5)))))
  exact ⟨⟨c.1, c.2.1, c.2.2.1, c.2.2.2.1, c.2.2.2.2.1, c.2.2.2.2.2⟩, hc⟩
theorem rd201 : ∀ n, Rd enc W k201 201 n := by
  intro n
  intro cs x h
  obtain ⟨m, rfl, hl, hf⟩ := rd_fields Try.underlying201 h
  rw [show Try.prog.cellsOf 201 = 6 by kernel_rfl] at hl
  have g0 : ∃ a, Kd.string.K W a ((cs.drop 0).take 1) := rd_at (by kernel_rfl) (rd_string Try.underlying9) (hf 0 _ rfl)
  have g1 : ∃ a, k188.K W a ((cs.drop 1).take 5) := rd_at (by kernel_rfl) (rd188 m) (hf 1 _ rfl)
  obtain ⟨c, hc⟩ := rd_all hl (rd_pair g0 g1)
  exact ⟨⟨c.1, c.2⟩, hc⟩
theorem fold194 {x : S194} {cs : List Value} (h : (F194 k194).K W x cs) : k194.K W x cs := by
  obtain ⟨_, _, rfl, rfl, ⟨_, _, rfl, rfl, ⟨_, _, rfl, rfl, ⟨A3, c3, rfl, l3, g3⟩⟩⟩⟩ := h
  exact k194_mk W x l3 g3
theorem rd194 : ∀ n, Rd enc W k194 194 n := by
  intro n
  induction n using Nat.strongRecOn with
  | _ n ih =>
  intro cs x h
  obtain ⟨m, rfl, hl, hf⟩ := rd_fields Try.underlying194 h
  rw [show Try.prog.cellsOf 194 = 4 by kernel_rfl] at hl
  have g0 : ∃ a, (Kd.int .i64).K W a ((cs.drop 0).take 1) := rd_at (by kernel_rfl) (rd_int Try.underlying3) (hf 0 _ rfl)
  have g1 : ∃ a, Kd.string.K W a ((cs.drop 1).take 1) := rd_at (by kernel_rfl) (rd_string Try.underlying9) (hf 1 _ rfl)
  have g2 : ∃ a, (Kd.int .i64).K W a ((cs.drop 2).take 1) := rd_at (by kernel_rfl) (rd_int Try.underlying3) (hf 2 _ rfl)
  have g3 : ∃ a, (Kd.slice 194 k194).K W a ((cs.drop 3).take 1) := rd_at (by kernel_rfl) (rd_slice Try.underlying192 (by kernel_rfl) (fun j hj => ih j (by omega))) (hf 3 _ rfl)
  obtain ⟨c, hc⟩ := rd_all hl (rd_pair g0 (rd_pair g1 (rd_pair g2 g3)))
  exact ⟨⟨c.1, c.2.1, c.2.2.1, c.2.2.2⟩, fold194 hc⟩
theorem rd196 : ∀ n, Rd enc W k196 196 n := by
  intro n
  intro cs x h
  obtain ⟨m, rfl, hl, hf⟩ := rd_fields Try.underlying196 h
  rw [show Try.prog.cellsOf 196 = 5 by kernel_rfl] at hl
  have g0 : ∃ a, Kd.string.K W a ((cs.drop 0).take 1) := rd_at (by kernel_rfl) (rd_string Try.underlying9) (hf 0 _ rfl)
  have g1 : ∃ a, k194.K W a ((cs.drop 1).take 4) := rd_at (by kernel_rfl) (rd194 m) (hf 1 _ rfl)
  obtain ⟨c, hc⟩ := rd_all hl (rd_pair g0 g1)
  exact ⟨⟨c.1, c.2⟩, hc⟩
theorem fold203 {x : S203} {cs : List Value} (h : (F203 k203).K W x cs) : k203.K W x cs := by
  obtain ⟨_, _, rfl, rfl, ⟨_, _, rfl, rfl, ⟨_, _, rfl, rfl, ⟨_, _, rfl, ⟨A3, c3, rfl, l3, g3⟩, ⟨_, _, rfl, ⟨A4, c4, rfl, l4, g4⟩, ⟨_, _, rfl, ⟨A5, c5, rfl, l5, g5⟩, ⟨_, _, rfl, ⟨A6, c6, rfl, l6, g6⟩, ⟨A7, c7, rfl, l7, g7⟩⟩⟩⟩⟩⟩⟩⟩ := h
  exact k203_mk W x l3 g3 l4 g4 l5 g5 l6 g6 l7 g7
theorem rd203 : ∀ n, Rd enc W k203 203 n := by
  intro n
  induction n using Nat.strongRecOn with
  | _ n ih =>
  intro cs x h
  obtain ⟨m, rfl, hl, hf⟩ := rd_fields Try.underlying203 h
  rw [show Try.prog.cellsOf 203 = 8 by kernel_rfl] at hl
  have g0 : ∃ a, (Kd.int .i64).K W a ((cs.drop 0).take 1) := rd_at (by kernel_rfl) (rd_int Try.underlying3) (hf 0 _ rfl)
  have g1 : ∃ a, Kd.string.K W a ((cs.drop 1).take 1) := rd_at (by kernel_rfl) (rd_string Try.underlying9) (hf 1 _ rfl)
  have g2 : ∃ a, (Kd.int .i64).K W a ((cs.drop 2).take 1) := rd_at (by kernel_rfl) (rd_int Try.underlying3) (hf 2 _ rfl)
  have g3 : ∃ a, (Kd.slice 194 k194).K W a ((cs.drop 3).take 1) := rd_at (by kernel_rfl) (rd_slice Try.underlying192 (by kernel_rfl) (fun j hj => rd194 j)) (hf 3 _ rfl)
  have g4 : ∃ a, (Kd.slice 196 k196).K W a ((cs.drop 4).take 1) := rd_at (by kernel_rfl) (rd_slice Try.underlying59 (by kernel_rfl) (fun j hj => rd196 j)) (hf 4 _ rfl)
  have g5 : ∃ a, (Kd.slice 203 k203).K W a ((cs.drop 5).take 1) := rd_at (by kernel_rfl) (rd_slice Try.underlying189 (by kernel_rfl) (fun j hj => ih j (by omega))) (hf 5 _ rfl)
  have g6 : ∃ a, (Kd.slice 203 k203).K W a ((cs.drop 6).take 1) := rd_at (by kernel_rfl) (rd_slice Try.underlying189 (by kernel_rfl) (fun j hj => ih j (by omega))) (hf 6 _ rfl)
  have g7 : ∃ a, (Kd.slice 203 k203).K W a ((cs.drop 7).take 1) := rd_at (by kernel_rfl) (rd_slice Try.underlying189 (by kernel_rfl) (fun j hj => ih j (by omega))) (hf 7 _ rfl)
  obtain ⟨c, hc⟩ := rd_all hl (rd_pair g0 (rd_pair g1 (rd_pair g2 (rd_pair g3 (rd_pair g4 (rd_pair g5 (rd_pair g6 g7)))))))
  exact ⟨⟨c.1, c.2.1, c.2.2.1, c.2.2.2.1, c.2.2.2.2.1, c.2.2.2.2.2.1, c.2.2.2.2.2.2.1, c.2.2.2.2.2.2.2⟩, fold203 hc⟩
theorem rd191 : ∀ n, Rd enc W k191 191 n := by
  intro n
  intro cs x h
  obtain ⟨m, rfl, hl, hf⟩ := rd_fields Try.underlying191 h
  rw [show Try.prog.cellsOf 191 = 15 by kernel_rfl] at hl
  have g0 : ∃ a, (Kd.int .i64).K W a ((cs.drop 0).take 1) := rd_at (by kernel_rfl) (rd_int Try.underlying3) (hf 0 _ rfl)
  have g1 : ∃ a, Kd.string.K W a ((cs.drop 1).take 1) := rd_at (by kernel_rfl) (rd_string Try.underlying9) (hf 1 _ rfl)
  have g2 : ∃ a, (Kd.slice 9 Kd.string).K W a ((cs.drop 2).take 1) := rd_at (by kernel_rfl) (rd_slice Try.underlying25 (by kernel_rfl) (fun j hj => rd_string Try.underlying9)) (hf 2 _ rfl)
  have g3 : ∃ a, (Kd.slice 201 k201).K W a ((cs.drop 3).take 1) := rd_at (by kernel_rfl) (rd_slice Try.underlying186 (by kernel_rfl) (fun j hj => rd201 j)) (hf 3 _ rfl)
  have g4 : ∃ a, k188.K W a ((cs.drop 4).take 5) := rd_at (by kernel_rfl) (rd188 m) (hf 4 _ rfl)
  have g5 : ∃ a, (Kd.slice 201 k201).K W a ((cs.drop 9).take 1) := rd_at (by kernel_rfl) (rd_slice Try.underlying186 (by kernel_rfl) (fun j hj => rd201 j)) (hf 5 _ rfl)
  have g6 : ∃ a, (Kd.slice 196 k196).K W a ((cs.drop 10).take 1) := rd_at (by kernel_rfl) (rd_slice Try.underlying59 (by kernel_rfl) (fun j hj => rd196 j)) (hf 6 _ rfl)
  have g7 : ∃ a, (Kd.slice 196 k196).K W a ((cs.drop 11).take 1) := rd_at (by kernel_rfl) (rd_slice Try.underlying59 (by kernel_rfl) (fun j hj => rd196 j)) (hf 7 _ rfl)
  have g8 : ∃ a, (Kd.slice 203 k203).K W a ((cs.drop 12).take 1) := rd_at (by kernel_rfl) (rd_slice Try.underlying189 (by kernel_rfl) (fun j hj => rd203 j)) (hf 8 _ rfl)
  have g9 : ∃ a, (Kd.slice 203 k203).K W a ((cs.drop 13).take 1) := rd_at (by kernel_rfl) (rd_slice Try.underlying189 (by kernel_rfl) (fun j hj => rd203 j)) (hf 9 _ rfl)
  have g10 : ∃ a, Kd.bool.K W a ((cs.drop 14).take 1) := rd_at (by kernel_rfl) (rd_bool Try.underlying4) (hf 10 _ rfl)
  obtain ⟨c, hc⟩ := rd_all hl (rd_pair g0 (rd_pair g1 (rd_pair g2 (rd_pair g3 (rd_pair g4 (rd_pair g5 (rd_pair g6 (rd_pair g7 (rd_pair g8 (rd_pair g9 g10))))))))))
  exact ⟨⟨c.1, c.2.1, c.2.2.1, c.2.2.2.1, c.2.2.2.2.1, c.2.2.2.2.2.1, c.2.2.2.2.2.2.1, c.2.2.2.2.2.2.2.1, c.2.2.2.2.2.2.2.2.1, c.2.2.2.2.2.2.2.2.2.1, c.2.2.2.2.2.2.2.2.2.2⟩, hc⟩
theorem rd61 : ∀ n, Rd enc W k61 61 n := by
  intro n
  intro cs x h
  obtain ⟨m, rfl, hl, hf⟩ := rd_fields Try.underlying61 h
  rw [show Try.prog.cellsOf 61 = 7 by kernel_rfl] at hl
  have g0 : ∃ a, Kd.string.K W a ((cs.drop 0).take 1) := rd_at (by kernel_rfl) (rd_string Try.underlying9) (hf 0 _ rfl)
  have g1 : ∃ a, Kd.bool.K W a ((cs.drop 1).take 1) := rd_at (by kernel_rfl) (rd_bool Try.underlying4) (hf 1 _ rfl)
  have g2 : ∃ a, (Kd.slice 185 k185).K W a ((cs.drop 2).take 1) := rd_at (by kernel_rfl) (rd_slice Try.underlying56 (by kernel_rfl) (fun j hj => rd185 j)) (hf 2 _ rfl)
  have g3 : ∃ a, (Kd.slice 65 k65).K W a ((cs.drop 3).take 1) := rd_at (by kernel_rfl) (rd_slice Try.underlying57 (by kernel_rfl) (fun j hj => rd65 j)) (hf 3 _ rfl)
  have g4 : ∃ a, (Kd.slice 9 Kd.string).K W a ((cs.drop 4).take 1) := rd_at (by kernel_rfl) (rd_slice Try.underlying25 (by kernel_rfl) (fun j hj => rd_string Try.underlying9)) (hf 4 _ rfl)
  have g5 : ∃ a, (Kd.slice 191 k191).K W a ((cs.drop 5).take 1) := rd_at (by kernel_rfl) (rd_slice Try.underlying58 (by kernel_rfl) (fun j hj => rd191 j)) (hf 5 _ rfl)
  have g6 : ∃ a, (Kd.slice 196 k196).K W a ((cs.drop 6).take 1) := rd_at (by kernel_rfl) (rd_slice Try.underlying59 (by kernel_rfl) (fun j hj => rd196 j)) (hf 6 _ rfl)
  obtain ⟨c, hc⟩ := rd_all hl (rd_pair g0 (rd_pair g1 (rd_pair g2 (rd_pair g3 (rd_pair g4 (rd_pair g5 g6))))))
  exact ⟨⟨c.1, c.2.1, c.2.2.1, c.2.2.2.1, c.2.2.2.2.1, c.2.2.2.2.2.1, c.2.2.2.2.2.2⟩, hc⟩
theorem trod_classes {d : DataW H} {p : List MemPlace} {A : Option Addr} {len cap : Nat} (h : DataW.Trod enc Try.prog W 0 (fun _ => true) true 22 (.slice A len cap) d p) : ∃ l : List S61, len = l.length ∧ len ≤ cap ∧ k61.C W A l.length l := by
  obtain ⟨n, hn⟩ := h
  obtain ⟨l, A', c, he, hl, hC⟩ := rd_slice (n := n) Try.underlying22 (by kernel_rfl) (fun j _ => rd61 (enc := enc) (W := W) j) _ _ hn
  injection he with he _
  injection he with h1 h2 h3
  subst h1; subst h2; subst h3
  exact ⟨l, rfl, hl, hC⟩
theorem trod_strings {d : DataW H} {p : List MemPlace} {A : Option Addr} {len cap : Nat} {t : TypeId} (ht : Try.prog.underlying t = some (.slice 9)) (h : DataW.Trod enc Try.prog W 0 (fun _ => true) true t (.slice A len cap) d p) : ∃ l : List ByteArray, len = l.length ∧ len ≤ cap ∧ Kd.string.C W A l.length l := by
  obtain ⟨n, hn⟩ := h
  obtain ⟨l, A', c, he, hl, hC⟩ := rd_slice (n := n) ht (by kernel_rfl) (fun j _ => rd_string Try.underlying9) _ _ hn
  injection he with he _
  injection he with h1 h2 h3
  subst h1; subst h2; subst h3
  exact ⟨l, rfl, hl, hC⟩
end
end Go.Proofs.Ytdljclokenoogaa.Hw
end
section
namespace Go.Proofs.Ytdljclokenoogaa.Hw
open Go.RowKit Go.Proofs.Ytdljclokenoogaa.Hp Go.Proofs.YtdljclokenoogaaW.PrintWords Go.Proofs.YtdljclokenoogaaW.PrintLast Go.Proofs.YtdljclokenoogaaW.PrintMore
section
variable {H : Type} {enc : TypeId × Value → H} {W : World}
theorem weights_slice {P : Program} {t e : TypeId} (ht : P.underlying t = some (.slice e)) (xs ys : List (DataW H)) : (DataW.slice xs ys).weights P t = (xs.length + ys.length) * P.bytesOf e :: (DataW.weightsAll P e xs ++ DataW.weightsAll P e ys) := by
  rw [DataW.weights, ht]
theorem slice_weight {P : Program} {t e : TypeId} {cs : List Value} {n : Nat} {x : DataW H × List MemPlace} {A : Option Addr} {len cap : Nat} (ht : P.underlying t = some (.slice e)) (hcs : cs = [.slice A len cap]) (h : DataW.trod enc P W 0 (fun _ => true) true n t cs = some x)
    (hw : ∀ m ∈ x.1.weights P t, m ≤ reachBytes) : len * P.bytesOf e ≤ reachBytes := by
  subst hcs
  rcases DataW.trod_slice ht h with ⟨h1, _⟩ | ⟨a, len', cap', elems, rest, m, rfl, h1, rfl, _, _, _, hlen, _, _, _⟩
  · injection h1 with h1 _
    injection h1 with _ h2 _
    subst h2; simp
  · injection h1 with h1 _
    injection h1 with _ h2 _
    subst h2
    rw [weights_slice ht] at hw
    have hw' := hw _ (List.mem_cons_self ..)
    rw [List.length_map, List.length_map] at hw'
    exact Nat.le_trans (Nat.mul_le_mul_right _ (by omega)) hw'
theorem trod_len {ts : List TypeId} {ds : List (DataW H)} {j : Nat} {d : DataW H} {p : List MemPlace} {A : Option Addr} {len cap : Nat} (hsz : (DataW.weightsEach Try.prog ts ds).all (· ≤ reachBytes) = true) (ht : ts[j]? = some 22) (hd : ds[j]? = some d)
    (h : DataW.Trod enc Try.prog W 0 (fun _ => true) true 22 (.slice A len cap) d p) : len ≤ 1100000000000 := by
  obtain ⟨n, hn⟩ := h
  have h4 := slice_weight (enc := enc) (W := W) (e := 61) Try.underlying22 rfl hn (fun m hm => by
    have := List.all_eq_true.1 hsz m (DataW.weights_mem_each ht hd m hm)
    simpa using this)
  rw [show Try.prog.bytesOf 61 = 144 by kernel_rfl] at h4
  unfold reachBytes at h4
  omega
end
end Go.Proofs.Ytdljclokenoogaa.Hw
end
section
namespace Go.Proofs.Ytdljclokenoogaa.heirChecks
open Go.ChangeShapes Go.WideShapes Go.ChangeAt Go.RowKit Go.Proofs.Ytdljclokenoogaa.Hw
open Go.ChangeMaps (open_string shut_string)
set_option linter.unusedVariables false
theorem own : ownKnob Try.prog.godebug = none := by kernel_rfl
theorem laidOut : laidOutB Try.prog = true := by kernel_rfl
set_option maxRecDepth 100000 in
theorem lifted (os : Os) (started : os.Started) (H : Type) (enc : TypeId × Value → H) :
    ReturnsInHanded {} Try.checked os 12 .any (Rows.heirChecksSpec.pre6 enc Try.prog Try.f12 Rows.heirChecksRow.domain false) (Rows.heirChecksSpec.post enc Try.prog Try.f12 false true false false) := by
  refine returnsInHanded_of_change_sized (C := Try.checked) own started (by kernel_rfl) Try.func12
    (ChangeSpec.witness6 (enc := enc) (C := Try.checked) false ⟨#[], #[.slice none 0 0, .slice none 0 0], []⟩ 8 (by kernel_rfl) (by kernel_rfl) (by kernel_rfl) (by kernel_rfl)) ?_
  intro W base args ds gs before hval0 hW hcnd hsz0 _
  have hsz : (DataW.weightsEach Try.prog (Try.f12.params.toList ++ Rows.heirChecksSpec.plain.varTypes Try.prog) (ds ++ gs)).all (· ≤ reachBytes) = true := hsz0
  have hval : ∀ (j : Nat) t v, Try.f12.params[j]? = some t → args[j]? = some v → Value.okWide Try.prog W .any base t v := hval0
  have hW' := hW
  obtain ⟨p, q, hA0, hV, rfl, hfz, hnd⟩ := hW
  have hA : DataW.TrodAll enc Try.prog W 0 (fun _ => true) true Try.f12.params.toList args.toList ds p := hA0
  rw [Try.params12] at hA hval hsz
  obtain ⟨v0, vs0, d0, ds0, p0, q0, hargs, rfl, rfl, h0, r0⟩ := trodAll_cons hA
  obtain ⟨v1, vs1, d1, ds1, p1, q1, rfl, rfl, rfl, h1, r1⟩ := trodAll_cons r0
  obtain ⟨rfl, rfl, rfl⟩ := trodAll_nil r1
  obtain rfl : args = #[v0, v1] := by cases args; simp_all
  obtain ⟨rfl, rfl⟩ := trodVars_none hV
  obtain ⟨b0, len0, cap0, rfl⟩ := okWide_slice Try.underlying22 (hval 0 22 v0 rfl rfl)
  have k0 := h0
  have lt0 : ∀ x ∈ p0, x.block < W.heap.size := by obtain ⟨m, hm⟩ := k0; exact DataW.trod_lt m _ _ _ hm
  have ln0 := trod_len hsz (j := 0) rfl rfl h0
  obtain ⟨l0, rfl, hc0, hC0⟩ := trod_classes h0
  obtain ⟨b1, len1, cap1, rfl⟩ := okWide_slice Try.underlying25 (hval 1 25 v1 rfl rfl)
  have k1 := h1
  have lt1 : ∀ x ∈ p1, x.block < W.heap.size := by obtain ⟨m, hm⟩ := k1; exact DataW.trod_lt m _ _ _ hm
  obtain ⟨l1, rfl, hc1, hC1⟩ := trod_strings Try.underlying25 h1
  obtain ⟨kf, hkf⟩ := pure_checks l0 l1 (by omega)
  clear hA0 hval0 hsz0 hsz
  refine (Hp.cosignerlaw03_HeirChecks.calls kf b0 cap0 l0 b1 cap1 l1 true rfl W hC0 hc0 hC1 hc1 (hkf)).mono fun e W' ⟨he, bel⟩ => ?_
  subst he
  exact ⟨_, rfl, _, _, _, [], _, [], hW', trodAll_mk1 (shut_bool Try.underlying4 _), (trodAll_cons_mk (Below.trod laidOut (by kernel_rfl) (of_decide_eq_true (by kernel_rfl)) k0 bel lt0) (trodAll_cons_mk (Below.trod laidOut (by kernel_rfl) (of_decide_eq_true (by kernel_rfl)) k1 bel lt1) trodAll_mk0)), rfl, bel.frame _, fun h => by cases h⟩
theorem over : Rows.heirChecksRow.holds Try.pinned (OpenSpec.ofChange Rows.heirChecksSpec) :=
  OpenClaim.holds_of_wide 12 Try.f12 rfl rfl rfl rfl rfl rfl rfl ⟨rfl, rfl, rfl, rfl, rfl⟩ rfl rfl rfl rfl rfl (by kernel_rfl) Try.func12 (by kernel_rfl)
    (of_decide_eq_true (by kernel_rfl)) (by unfold Func.isWrapper; first | (rw [if_pos (by decide +kernel)]; kernel_rfl) | (rw [if_neg (by decide +kernel)]; exact ⟨rfl, rfl⟩))
    (fun os started H enc _ => lifted os started H enc)
theorem proved : Rows.HeirChecksSaid := over
#print axioms proved
end Go.Proofs.Ytdljclokenoogaa.heirChecks
namespace Go.Proofs.Ytdljclokenoogaa
theorem heirChecks_holds : Rows.HeirChecksSaid := heirChecks.proved
end Go.Proofs.Ytdljclokenoogaa
end
