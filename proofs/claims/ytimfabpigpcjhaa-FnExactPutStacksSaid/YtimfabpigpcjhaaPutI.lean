/- PutStacks of impl (slices.IndexFunc with a closure), and the walk of the exact law on PutStacks; no statement is proved here. -/
import Derived.Test.YtimfabpigpcjhaaStk
import Derived.Test.YtimfabpigpcjhaaFst
namespace Go.Proofs.Ytimfabpigpcjhaa
open Go.ChangeShapes Go.WideShapes Go.ChangeAt Go.RowKit
set_option linter.unusedVariables false
set_option linter.unusedSimpArgs false

def gtX (T : List Int) (x : Int) (j : Nat) : Bool := decide (x < el T j)
theorem puts1_c (top x : Int) (g : Nat) (w : World) (hc : w.cell? ⟨g, 0, none⟩ = some (.int .i64 x)) : Calls Try.prog 57 #[(.int .i64 top), .pointer (some ⟨g, 0, none⟩)] w (Rs (.bool (decide (x < top))) w) := by
  go_enter Try.func57, Try.ntmps57
  go_wp2
  go_ret
  exact ⟨rfl, rfl⟩
theorem idxInt_c (v : Value) (zs : List Int) (w : World) (hv : ISl w v zs) (hl : zs.length ≤ 1048576) (x : Int) (g : Nat) (hc : w.cell? ⟨g, 0, none⟩ = some (.int .i64 x)) :
    Calls Try.prog 56 #[v, .func (.func 57) #[] #[.pointer (some ⟨g, 0, none⟩)]] w (Rs (.int .i64 (fstB (gtX zs x) zs.length)) w) := by
  obtain ⟨p, cap, rfl, hp⟩ := hv
  obtain ⟨n, hn⟩ : ∃ n, n = zs.length := ⟨_, rfl⟩
  rw [← hn] at hp hl ⊢
  have HN := mkhid hn
  clear hn
  go_enter Try.func56, Try.ntmps56
  go_wp2_with fail
  go_loop [8] (fun i => ∃ k : Nat, k ≤ n ∧ i = .int .i64 k ∧ Hid (∀ j, j < k → gtX zs x j = false)) (fun i => n - (intOf i).toNat)
  case atStart => exact ⟨0, Nat.zero_le _, rfl, fun j hj => by omega⟩
  case round =>
    obtain ⟨k, hk, rfl, HB⟩ := hrel
    by_cases hlt : k < n
    · obtain ⟨b, off, rfl, hb, hi⟩ := hp (by omega)
      have i1 : (0 : Int) ≤ (k : Int) := by omega
      have i2 : (k : Int) < (n : Int) := by omega
      have c1 := hi k (by rw [← HN.out]; exact hlt)
      have CL := puts1_c (el zs k) x g w hc
      clear hi hp
      by_cases hx : x < el zs k
      · have hg : Hid (fstB (gtX zs x) n = (k : Int)) := fstB_at hlt (decide_eq_true hx) HB.out
        rw [decide_eq_true hx] at CL
        clear hx
        go_wp2_with (go_at_call 57; refine CL.mono ?_; rintro e w1 ⟨rfl, rfl⟩)
        go_ret
        exact ⟨ret_int hg.out.symm, rfl⟩
      · have hok : Hid (∀ j, j < k + 1 → gtX zs x j = false) := fun j hj => by
          rcases Nat.lt_succ_iff_lt_or_eq.1 hj with e | e
          · exact HB.out j e
          · exact e ▸ decide_eq_false hx
        rw [decide_eq_false hx] at CL
        clear hx
        go_wp2_with (go_at_call 57; refine CL.mono ?_; rintro e w1 ⟨rfl, rfl⟩)
        go_round
        case rel => exact ⟨k + 1, by omega, by go_num, hok⟩
        case measure => simp [intOf]; omega
    · have hkn := mkhid (show k = n by omega)
      have hg : Hid (fstB (gtX zs x) n = -1) := fstB_none (hkn.out ▸ HB.out)
      go_wp2
      go_ret
      exact ⟨ret_int hg.out.symm, rfl⟩
theorem fst_first {T : List Int} {x : Int} (h : ∀ p, p < T.length → el T p ≠ x) : (∃ q : Nat, q < T.length ∧ fstB (gtX T x) T.length = q ∧ IsFirst T x q) ∨ (fstB (gtX T x) T.length = -1 ∧ IsFirst T x T.length) := by
  by_cases hx : ∃ q, q < T.length ∧ gtX T x q = true
  · obtain ⟨q, hq, hg⟩ := hx
    obtain ⟨m, hm, e⟩ := fstB_lt hq hg
    refine .inl ⟨m, by omega, e, by omega, fun p hp => ?_, fun _ => ?_⟩
    · have hpT : p < T.length := by omega
      have h1 : gtX T x p = false := by
        cases hh : gtX T x p
        · rfl
        · obtain ⟨m', hm', e'⟩ := fstB_lt hpT hh
          omega
      have h2 := h p hpT
      simp [gtX] at h1
      omega
    · have h1 : gtX T x m = true := by
        cases hh : gtX T x m
        · exfalso
          have : ∀ m', m' ≤ q → gtX T x m' = true → (∀ j, j < m' → gtX T x j = false) → False := fun m' hm' h1 h2 => by
            have := fstB_at (n := T.length) (show m' < T.length by omega) h1 h2
            have e2 : m' = m := by omega
            subst e2; rw [h1] at hh; cases hh
          have hleast : ∃ m', m' ≤ q ∧ gtX T x m' = true ∧ ∀ j, j < m' → gtX T x j = false := by
            clear this e hm hh
            induction q using Nat.strongRecOn with
            | _ q ih =>
              by_cases hj : ∃ j, j < q ∧ gtX T x j = true
              · obtain ⟨j, hj1, hj2⟩ := hj
                obtain ⟨m', a, b, c⟩ := ih j hj1 (by omega) hj2
                exact ⟨m', by omega, b, c⟩
              · refine ⟨q, Nat.le_refl _, hg, fun j hj' => ?_⟩
                cases hh : gtX T x j
                · rfl
                · exact absurd ⟨j, hj', hh⟩ hj
          obtain ⟨m', a, b, c⟩ := hleast
          exact this m' a b c
        · rfl
      simp [gtX] at h1
      omega
  · have hn : ∀ j, j < T.length → gtX T x j = false := fun j hj => by
      cases hh : gtX T x j
      · rfl
      · exact absurd ⟨j, hj, hh⟩ hx
    refine .inr ⟨fstB_none hn, Nat.le_refl _, fun p hp => ?_, fun hh => absurd hh (Nat.lt_irrefl _)⟩
    have h1 := hn p hp
    have h2 := h p hp
    simp [gtX] at h1
    omega
theorem greedy_ne {zs : List Int} {k p : Nat} (h : okT zs zs.length) (hk : k < zs.length) (hp : p < (greedy zs k).1.length) : el (greedy zs k).1 p ≠ el zs k := by
  obtain ⟨j, hj, e, _⟩ := (greedy_good h (Nat.le_of_lt hk)).from' p hp
  rw [← e]
  exact (h k hk).2.2 j hj
theorem putTop_self {T : List Int} {x : Int} {m : Nat} (h : T.length = m) : (T ++ [x]).set m x = putTop T m x := by
  subst h; unfold putTop; rw [if_neg (Nat.lt_irrefl _)]; rw [List.set_append_right _ _ (Nat.le_refl _)]; simp
theorem grown_cell {W w : World} {r : Option Nat} {b o : Nat} (h : W.grownBy w r) (hb : b < W.heap.size) (hne : r ≠ some b) : w.cell? ⟨b, o, none⟩ = W.cell? ⟨b, o, none⟩ := by
  unfold World.cell?
  rw [h.block b hb (by first | exact hne | exact fun e => hne e.symm)]
end Go.Proofs.Ytimfabpigpcjhaa
