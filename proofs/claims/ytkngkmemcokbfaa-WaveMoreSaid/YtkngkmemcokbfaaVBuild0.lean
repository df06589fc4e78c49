/- Layer 21: building a file, plain. No program in sight but the printed pieces. -/
import Derived.Test.YtkngkmemcokbfaaVWave0
import Derived.Test.YtkngkmemcokbfaaPWvx11
namespace Go.Proofs.Ytkngkmemcokbfaa.PWv
open Go Go.RowKit Go.Proofs.YtkngkmemcokbfaaW.PrintWords Go.Proofs.YtkngkmemcokbfaaW.PrintMore
set_option linter.unusedVariables false
set_option linter.unusedSimpArgs false
theorem wave_size {s : ByteArray} {v : Wv} (h : waveOf s = some v) : s.size ≤ 4096 := by
  unfold waveOf at h
  cases hc : chunksOf s with
  | none => rw [hc] at h; cases h
  | some cs => exact (chunks_in hc).1
/-- The parts of a file make it. -/
theorem wave_joins {s : ByteArray} {c b : Int} {h d t : ByteArray} (hw : waveOf s = some (c, b, h, d, t)) : h ++ d ++ t = s := by
  unfold waveOf at hw
  cases hc : chunksOf s with
  | none => rw [hc] at hw; cases hw
  | some cs =>
    rw [hc, Option.bind_some] at hw
    obtain ⟨h1, h2, h3⟩ := chunks_in hc
    unfold waveIn at hw
    split at hw
    · rename_i hcond
      have hd := found_in hcond.2.1
      have hb := h3 _ (rd_mem hd.1 hd.2)
      unfold waveAt at hw
      dsimp only at hw
      split at hw
      · have hw := Option.some.inj hw
        obtain ⟨b_, hb_⟩ : ∃ b_, b_ = rd_T34 cs (wave_one.find dataId cs 0) := ⟨_, rfl⟩
        rw [← hb_] at hw hb
        have e := (Prod.mk.inj (Prod.mk.inj (Prod.mk.inj hw).2).2)
        have e3 := e.1
        have e4 := (Prod.mk.inj e.2).1
        have e5 := (Prod.mk.inj e.2).2
        subst e3; subst e4; subst e5
        apply Bytes.inj
        rw [Bytes.of_append, Bytes.of_append, Bytes.of_extract, Bytes.of_extract, Bytes.of_extract, List.drop_zero]
        obtain ⟨x, hx⟩ : ∃ x : Nat, b_.f1 = x := ⟨b_.f1.toNat, by omega⟩
        obtain ⟨y, hy⟩ : ∃ y : Nat, b_.f2 = y := ⟨b_.f2.toNat, by omega⟩
        rw [hx, hy]
        rw [hx, hy] at hb
        rw [show ((x : Int)).toNat = x from rfl, show ((x : Int) + (y : Int)).toNat = x + y by omega, show x + y - x = y by omega, Nat.sub_zero]
        have hl : (bytesOf s).length = s.size := bytesOf_length s
        rw [show ((bytesOf s).drop (x + y)).take (s.size - (x + y)) = (bytesOf s).drop (x + y) from List.take_of_length_le (by rw [List.length_drop]; omega)]
        rw [List.append_assoc, ← List.drop_drop, List.take_append_drop, List.take_append_drop]
      · cases hw
    · cases hw
def buildOk (c b : Int) (h d t : ByteArray) : Prop := waveOf (h ++ d ++ t) = some (c, b, h, d, t)
open Classical in
noncomputable def buildOf (c b : Int) (h d t : ByteArray) : ByteArray × Int := if buildOk c b h d t then (h ++ d ++ t, 0) else (⟨#[]⟩, 2100)
theorem same_list (s t : ByteArray) : (s.toList == t.toList) = true ↔ s = t := by
  rw [beq_iff_eq, Bytes.toList_iff, Bytes.eq_iff]
theorem ok_size {c b : Int} {h d t : ByteArray} (ho : buildOk c b h d t) : h.size + d.size + t.size ≤ 4096 := by
  have := wave_size ho
  rw [ByteArray.size_append, ByteArray.size_append] at this
  omega
theorem build_of (k : Nat) (c b : Int) (h d t : ByteArray) : wave_Build.f (k + 161) c b h d t = some (buildOf c b h d t) := by
  have bad : ¬ buildOk c b h d t → some ((⟨#[]⟩ : ByteArray), (2100 : Int)) = some (buildOf c b h d t) := fun hn => by
    unfold buildOf; rw [if_neg hn]
  have badj : ¬ buildOk c b h d t → wave_Build.j0 (k + 161) true c b h d t = some (buildOf c b h d t) := fun hn => by
    rw [show k + 161 = (k + 160) + 1 by omega]
    simp only [wave_Build.j0]
    rw [if_pos trivial]; exact bad hn
  unfold wave_Build.f
  by_cases c1 : (h.size : Int) > 4096
  · rw [if_pos c1]; exact badj (fun ho => by have := ok_size ho; omega)
  rw [if_neg c1]
  by_cases c2 : (d.size : Int) > 4096
  · rw [if_pos c2]; exact badj (fun ho => by have := ok_size ho; omega)
  rw [if_neg c2]
  by_cases c3 : (t.size : Int) > 4096
  · rw [decide_eq_true c3]; exact badj (fun ho => by have := ok_size ho; omega)
  rw [decide_eq_false c3, show k + 161 = (k + 160) + 1 by omega]
  simp only [wave_Build.j0]
  rw [if_neg (by decide), if_pos (by omega), if_pos (by omega), parse_of k _ (by rw [ByteArray.size_append, ByteArray.size_append]; omega), Option.bind_some]
  cases hw : waveOf (h ++ d ++ t) with
  | none =>
    rw [show toldW none = (0, 0, ⟨#[]⟩, ⟨#[]⟩, ⟨#[]⟩, 2100) from rfl]
    dsimp only
    rw [if_neg (by decide)]
    exact bad (fun ho => by unfold buildOk at ho; rw [hw] at ho; cases ho)
  | some v =>
    obtain ⟨c', b', h', d', t'⟩ := v
    rw [show toldW (some (c', b', h', d', t')) = (c', b', h', d', t', 0) from rfl]
    dsimp only
    rw [if_pos rfl]
    by_cases e : (c', b', h', d', t') = (c, b, h, d, t)
    · obtain ⟨rfl, rfl, rfl, rfl, rfl⟩ : c' = c ∧ b' = b ∧ h' = h ∧ d' = d ∧ t' = t := by
        obtain ⟨e1, e⟩ := Prod.mk.inj e; obtain ⟨e2, e⟩ := Prod.mk.inj e; obtain ⟨e3, e⟩ := Prod.mk.inj e; obtain ⟨e4, e5⟩ := Prod.mk.inj e
        exact ⟨e1, e2, e3, e4, e5⟩
      rw [if_neg (by simp)]
      unfold buildOf
      rw [if_pos (show buildOk c' b' h' d' t' from hw)]
    · rw [if_pos]
      · exact bad (fun ho => e (Option.some.inj (hw.symm.trans ho)))
      · simp only [Bool.or_eq_true, Bool.not_eq_true']
        by_cases e1 : c' = c
        · by_cases e2 : b' = b
          · by_cases e3 : h' = h
            · by_cases e4 : d' = d
              · by_cases e5 : t' = t
                · exact absurd (by rw [e1, e2, e3, e4, e5]) e
                · exact .inr (.inr (.inr (Bool.eq_false_iff.2 (fun h_ => e5 ((same_list _ _).1 h_)))))
              · exact .inr (.inr (.inl (Bool.eq_false_iff.2 (fun h_ => e4 ((same_list _ _).1 h_)))))
            · exact .inr (.inl (Bool.eq_false_iff.2 (fun h_ => e3 ((same_list _ _).1 h_))))
          · exact .inl (.inr (beq_eq_false_iff_ne.2 e2))
        · exact .inl (.inl (beq_eq_false_iff_ne.2 e1))
end Go.Proofs.Ytkngkmemcokbfaa.PWv
