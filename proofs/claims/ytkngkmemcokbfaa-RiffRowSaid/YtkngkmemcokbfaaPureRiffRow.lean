/- 'RiffRow' of chapter 20: the chunks stand one behind the other, to the text's end, each with its name. No condition. -/
import Derived.Test.YtkngkmemcokbfaaPAllx9
import Derived.Test.YtkngkmemcokbfaaRiffLaw
namespace Go.Proofs.Ytkngkmemcokbfaa.Pure
open Go.RowKit Go.Proofs.Ytkngkmemcokbfaa.PAll Go.Proofs.YtkngkmemcokbfaaW.PrintWords Go.Proofs.YtkngkmemcokbfaaW.PrintLast
set_option linter.unusedVariables false
set_option linter.unusedSimpArgs false

theorem row_loop (k : Nat) (s : ByteArray) (hs : s.size ≤ 4096) (all : List S34) (hl : all.length ≤ 64) (d : Nat) : ∀ (p : Int) (i : Nat), 0 ≤ p → p ≤ s.size → rest s d p = some (all.drop i) → i ≤ all.length →
    descantlaw20_RiffRow.l0 (k + d + 1) s all p i = some true := by
  induction d with
  | zero =>
    intro p i h0 hp hr hi
    unfold rest at hr
    split at hr
    · cases hr
    · rename_i c
      simp only [descantlaw20_RiffRow.l0]
      have : all.drop i = [] := (Option.some.inj hr).symm
      have h2 := List.drop_eq_nil_iff.1 this
      rw [if_neg (by omega)]
      congr 1; rw [beq_iff_eq]; omega
  | succ d ih =>
    intro p i h0 hp hr hi
    rw [show k + (d + 1) + 1 = (k + d + 1) + 1 by omega]
    unfold rest at hr
    split at hr
    · rename_i c
      split at hr
      · cases hr
      rename_i c8
      split at hr
      · cases hr
      rename_i cn
      obtain ⟨ds, h1, h2⟩ := Option.map_eq_some_iff.1 hr
      have r := num4_range s (p + 4) (by omega) (by omega)
      have hi2 : i < all.length := by
        by_cases hc : i < all.length
        · exact hc
        · rw [List.drop_eq_nil_iff.2 (by omega)] at h2; cases h2
      have hget : rd_T34 all (i : Int) = ⟨s.extract p.toNat (p + 4).toNat, p + 8, num4 s (p + 4)⟩ := by
        unfold rd_T34
        rw [Int.toNat_natCast, List.getD_eq_getElem?_getD, List.getElem?_eq_getElem hi2, Option.getD_some]
        rw [List.drop_eq_getElem_cons hi2] at h2
        exact (List.cons.inj h2).1.symm
      have hds : ds = all.drop (i + 1) := by
        rw [List.drop_eq_getElem_cons hi2] at h2
        exact (List.cons.inj h2).2
      simp only [descantlaw20_RiffRow.l0]
      rw [if_pos (by omega), if_pos (by omega), hget]
      simp only []
      obtain ⟨n, hn⟩ : ∃ n, n = num4 s (p + 4) := ⟨_, rfl⟩
      rw [← hn] at r h1 cn ⊢
      rw [Num.w64 (n := p + 8) (by omega) (by omega), if_pos rfl, if_neg (by omega), Num.w64 (n := (s.size : Int) - p) (by omega) (by omega), Num.w64 (n := (s.size : Int) - p - 8) (by omega) (by omega), if_neg (by omega), if_pos h0, Num.w64 (n := p + 4) (by omega) (by omega), if_pos (by omega), if_pos (by omega), if_pos rfl, Int.tmod_eq_emod_of_nonneg r.1, Num.w64 (n := p + 8 + n) (by omega) (by omega), Num.w64 (n := p + 8 + n + n % 2) (by omega) (by omega), Num.w64 (n := (i : Int) + 1) (by omega) (by omega)]
      rw [show p + 8 + n + n % 2 = p + 8 + (n + n % 2) by omega, show (i : Int) + 1 = ((i + 1 : Nat) : Int) by omega]
      exact ih _ _ (by omega) (by omega) (by rw [h1, hds]) (by omega)
    · rename_i c
      simp only [descantlaw20_RiffRow.l0]
      have : all.drop i = [] := (Option.some.inj hr).symm
      have h2 := List.drop_eq_nil_iff.1 this
      rw [if_neg (by omega)]
      congr 1; rw [beq_iff_eq]; omega

theorem RiffRow : descantlaw20_RiffRow.Pure := by
  intro s hs
  refine ⟨200, ?_⟩
  unfold descantlaw20_RiffRow.f
  rw [show 200 = 40 + 160 from rfl, chunks_prog 40 s hs, show 40 + 160 = 0 + 200 from rfl, awake20 0]
  simp only [Option.bind_some, if_true, descantlaw0_Num.f]
  have hl := chunks_length s
  cases hc : chunksOf s with
  | none => rfl
  | some cs =>
    rw [hc] at hl
    simp only [told, List.nil_append] at hl ⊢
    rw [if_pos trivial, show 0 + 200 = 135 + 64 + 1 from rfl]
    unfold chunksOf at hc
    split at hc
    · rename_i hf
      have h := of_decide_eq_true hf
      exact row_loop 135 s h.2.1 cs hl 64 12 0 (by decide) (by omega) (by simpa using hc) (by omega)
    · cases hc

end Go.Proofs.Ytkngkmemcokbfaa.Pure
