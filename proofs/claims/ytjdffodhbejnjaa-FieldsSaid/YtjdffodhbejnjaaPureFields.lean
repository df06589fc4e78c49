/- 'Fields' of chapter 1 (any numbers, any text): the program's Put and Get answer as the document's own. No condition. -/
import Derived.Test.YtjdffodhbejnjaaPAllx4
import Derived.Test.YtjdffodhbejnjaaFieldRef2
namespace Go.Proofs.Ytjdffodhbejnjaa.Pure
open Go.RowKit Go.Proofs.Ytjdffodhbejnjaa.PAll Go.Proofs.YtjdffodhbejnjaaW.PrintWords Go.Proofs.YtjdffodhbejnjaaW.PrintLast
set_option linter.unusedVariables false
set_option linter.unusedSimpArgs false

theorem awake_Fields : descantlaw1_awake.f 7 = some true := by decide +kernel

theorem put_mono7 (x m : Int) (hx : x < 9223372036854775808) : descantref1_PutField.f 7 x m = field_Put.f 7 x m := by
  have h1 := ref_put 1 x m hx
  rw [show (1 : Nat) + 6 = 7 from rfl] at h1
  rw [h1]
  by_cases c : m < 1 ∨ 4 < m ∨ x < 0 ∨ 256 ^ m.toNat ≤ x
  · rw [put_far c hx, put_far (k := 6) c hx]
  · rw [put_in (k := 1) (by omega) (by omega) (by omega) (by omega), put_in (k := 0) (by omega) (by omega) (by omega) (by omega)]

theorem Fields : descantlaw1_Fields.Pure := by
  intro x m s hx _ hs
  have hb := Num.bounds hx
  refine ⟨7, ?_⟩
  unfold descantlaw1_Fields.f
  rw [put_mono7 x m (by omega), ref_get 0 s hs, show (0 : Nat) + 7 = 7 from rfl, awake_Fields]
  obtain ⟨⟨a, e⟩, ha⟩ : ∃ p, field_Put.f 7 x m = some p := by
    by_cases c : m < 1 ∨ 4 < m ∨ x < 0 ∨ 256 ^ m.toNat ≤ x
    · exact ⟨_, put_far (k := 6) c (by omega)⟩
    · exact ⟨_, put_in (k := 0) (by omega) (by omega) (by omega) (by omega)⟩
  obtain ⟨⟨b, f⟩, hb2⟩ : ∃ p, field_Get.f 7 s = some p := by
    by_cases c : s.size < 1 ∨ 4 < s.size
    · exact ⟨_, get_far (k := 6) c⟩
    · exact ⟨_, get_in (k := 0) (by omega) (by omega)⟩
  rw [ha, hb2]
  simp [descantlaw0_Num.f]

end Go.Proofs.Ytjdffodhbejnjaa.Pure
