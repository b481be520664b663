/- What is stored is fetched, and what is fetched is gone: plain law; no statement is proved here. -/
import Derived.Test.YtddpjgcodnfbjaaPlHarp
import Derived.Test.YtddpjgcodnfbjaaStore
import Derived.Test.YtddpjgcodnfbjaaFetch
namespace Go.Proofs.Ytddpjgcodnfbjaa
set_option linter.unusedVariables false
set_option linter.unusedSimpArgs false

theorem fetch_facts {zs : List Int} {l : Int} {k : Nat} (h : fetchOk zs l = true) (hk : placeI zs l = k) : fetchR zs l = zs.set k 0 ∧ fetchAt zs l = k := by
  unfold fetchR fetchAt
  rw [if_pos h, if_pos h, hk]
  exact ⟨rfl, rfl⟩
theorem store_facts {zs : List Int} {l : Int} {k : Nat} (h : storeOk zs l = true) (hk : placeI zs 0 = k) : storeR zs l = zs.set k l ∧ storeAt zs l = k := by
  unfold storeR storeAt
  rw [if_pos h, if_pos h, hk]
  exact ⟨rfl, rfl⟩
theorem store_off {zs : List Int} {l : Int} (h : storeOk zs l = false) : storeR zs l = [] ∧ storeAt zs l = 0 := by
  unfold storeR storeAt
  rw [h]
  exact ⟨rfl, rfl⟩
theorem fetch_off {zs : List Int} {l : Int} (h : fetchOk zs l = false) : fetchR zs l = [] ∧ fetchAt zs l = 0 := by
  unfold fetchR fetchAt
  rw [h]
  exact ⟨rfl, rfl⟩
/-- a label that is stored is fetched from the same slot, and the rack is as before -/
theorem store_fetch {zs : List Int} {l : Int} (h : storeOk zs l = true) : ∃ k : Nat, k < zs.length ∧ storeR zs l = zs.set k l ∧ storeAt zs l = k ∧ fetchOk (zs.set k l) l = true ∧ fetchAt (zs.set k l) l = k ∧ fetchR (zs.set k l) l = zs ∧ ¬ (0 : Int) ∈ zs.take k := by
  obtain ⟨hv, hl1, hl2, hp, hz⟩ := storeOk_iff.1 h
  rcases placeI_cases zs 0 with ⟨e, _⟩ | ⟨k, hk, hkz, he, hf⟩
  · omega
  have hno : ∀ j, j < zs.length → el zs j ≠ l := by
    rcases placeI_cases zs l with ⟨_, h2⟩ | ⟨q, _, hq, _, _⟩
    · exact h2
    · omega
  obtain ⟨s1, s2⟩ := store_facts h hkz
  have hv2 : vHarp (zs.set k l) = true := vHarp_set hk hv (by omega) (fun _ j hj _ => hno j hj)
  have hp2 : placeI (zs.set k l) l = k := placeI_hit (by rw [List.length_set]; exact hk) (by rw [el_set hk, if_pos rfl]) (fun j hj => by rw [el_set hk, if_neg (by omega)]; exact hno j (by omega))
  have hfo : fetchOk (zs.set k l) l = true := fetchOk_iff.2 ⟨hv2, hl1, hl2, by omega⟩
  obtain ⟨f1, f2⟩ := fetch_facts hfo hp2
  refine ⟨k, hk, s1, s2, hfo, f2, by rw [f1]; exact set_back hk he, fun hm => ?_⟩
  obtain ⟨j, hj, e⟩ := mem_el hm
  rw [List.length_take] at hj
  rw [el_take (by omega)] at e
  exact hf j (by omega) e
/-- a label that is fetched is gone, and is stored no later -/
theorem fetch_store {zs : List Int} {l : Int} (h : fetchOk zs l = true) : ∃ k q : Nat, k < zs.length ∧ fetchR zs l = zs.set k 0 ∧ fetchAt zs l = k ∧ fetchOk (zs.set k 0) l = false ∧ storeOk (zs.set k 0) l = true ∧ storeAt (zs.set k 0) l = q ∧ q ≤ k := by
  obtain ⟨hv, hl1, hl2, hp⟩ := fetchOk_iff.1 h
  rcases placeI_cases zs l with ⟨e, _⟩ | ⟨k, hk, hkz, he, hf⟩
  · omega
  obtain ⟨s1, s2⟩ := fetch_facts h hkz
  have hone := harp_one hv hk he hl1
  have hv2 : vHarp (zs.set k 0) = true := vHarp_zero hk hv
  have hp2 : placeI (zs.set k 0) l = -1 := placeI_none (fun j hj => by
    rw [List.length_set] at hj
    rw [el_set hk]
    by_cases e : j = k
    · rw [if_pos e]; omega
    · rw [if_neg e]; exact hone j hj e)
  have hz : ∃ q : Nat, placeI (zs.set k 0) 0 = q ∧ q ≤ k := by
    rcases placeI_cases (zs.set k 0) 0 with ⟨_, h2⟩ | ⟨q, hq, hqz, _, hqf⟩
    · exact absurd (by rw [el_set hk, if_pos rfl]) (h2 k (by rw [List.length_set]; exact hk))
    · refine ⟨q, hqz, ?_⟩
      have : ¬ k < q := fun hlt => hqf k hlt (by rw [el_set hk, if_pos rfl])
      omega
  obtain ⟨q, hq, hqk⟩ := hz
  have hso : storeOk (zs.set k 0) l = true := storeOk_iff.2 ⟨hv2, hl1, hl2, by omega, by omega⟩
  have hfo : fetchOk (zs.set k 0) l = false := by
    cases hh : fetchOk (zs.set k 0) l
    · rfl
    · have := (fetchOk_iff.1 hh).2.2.2; omega
  exact ⟨k, q, hk, s1, s2, hfo, hso, (store_facts hso hq).2, hqk⟩
end Go.Proofs.Ytddpjgcodnfbjaa
