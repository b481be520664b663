/- Racks, plain law: what is stored is fetched; no program in sight, no statement is proved here. -/
import Derived.Test.YtddpjgcodnfbjaaPlRack
namespace Go.Proofs.Ytddpjgcodnfbjaa
set_option linter.unusedVariables false
set_option linter.unusedSimpArgs false

theorem okH_set {zs : List Int} {k : Nat} {x : Int} (hk : k < zs.length) (h : okH zs zs.length) (hx : 0 ≤ x ∧ x ≤ 9999) (hn : 0 < x → ∀ j, j < zs.length → j ≠ k → el zs j ≠ x) : okH (zs.set k x) (zs.set k x).length := by
  intro i hi
  rw [List.length_set] at hi
  rw [el_set hk]
  by_cases e : i = k
  · subst e
    rw [if_pos rfl]
    refine ⟨hx.1, hx.2, fun h0 j hj => ?_⟩
    rw [el_set hk, if_neg (by omega)]
    exact hn h0 j (by omega) (by omega)
  · rw [if_neg e]
    have hi2 := h i hi
    refine ⟨hi2.1, hi2.2.1, fun h0 j hj => ?_⟩
    rw [el_set hk]
    by_cases e2 : j = k
    · rw [if_pos e2]
      intro e3
      exact hn (by omega) i hi e e3.symm
    · rw [if_neg e2]; exact hi2.2.2 h0 j hj
theorem vHarp_set {zs : List Int} {k : Nat} {x : Int} (hk : k < zs.length) (h : vHarp zs = true) (hx : 0 ≤ x ∧ x ≤ 9999) (hn : 0 < x → ∀ j, j < zs.length → j ≠ k → el zs j ≠ x) : vHarp (zs.set k x) = true := by
  obtain ⟨h1, h2⟩ := vHarp_iff.1 h
  exact vHarp_yes (by rw [List.length_set]; exact h1) (okH_set hk h2 hx hn)
theorem vHarp_zero {zs : List Int} {k : Nat} (hk : k < zs.length) (h : vHarp zs = true) : vHarp (zs.set k 0) = true := vHarp_set hk h (by omega) (fun h0 => by omega)
theorem set_back {zs : List Int} {k : Nat} {x : Int} (hk : k < zs.length) (h : el zs k = 0) : (zs.set k x).set k 0 = zs := by
  rw [List.set_set]
  refine ext_el (by simp) fun i hi => ?_
  rw [el_set hk]
  by_cases e : i = k
  · rw [if_pos e, e, h]
  · rw [if_neg e]
theorem harp_one {zs : List Int} {k : Nat} {l : Int} (hv : vHarp zs = true) (hk : k < zs.length) (he : el zs k = l) (hl : 1 ≤ l) : ∀ j, j < zs.length → j ≠ k → el zs j ≠ l := by
  obtain ⟨_, h2⟩ := vHarp_iff.1 hv
  intro j hj hne e
  rcases Nat.lt_or_gt_of_ne hne with hlt | hgt
  · exact (h2 k hk).2.2 (by omega) j hlt (by omega)
  · exact (h2 j hj).2.2 (by omega) k hgt (by omega)
end Go.Proofs.Ytddpjgcodnfbjaa
