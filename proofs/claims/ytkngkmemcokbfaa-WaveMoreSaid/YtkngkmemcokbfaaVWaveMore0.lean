/- Layer 21, WaveMore: a chunk more behind. No program in sight. -/
import Derived.Test.YtkngkmemcokbfaaVRef0
import Derived.Test.YtkngkmemcokbfaaVWaveAny0
namespace Go.Proofs.Ytkngkmemcokbfaa.PWv
open Go Go.RowKit Go.Proofs.YtkngkmemcokbfaaW.PrintWords Go.Proofs.YtkngkmemcokbfaaW.PrintMore
set_option linter.unusedVariables false
set_option linter.unusedSimpArgs false
def abcd : ByteArray := ⟨#[97, 98, 99, 100]⟩
theorem rest_more (s t : ByteArray) (k : Nat) (hk : k % 2 = 0) (hts : t.size = s.size + 8 + k) (h4 : num4 t (s.size + 4) = k) (hid : t.extract s.size (s.size + 4) = abcd) (hsame : ∀ a b, 8 ≤ a → b ≤ s.size → t.extract a b = s.extract a b) (d : Nat) :
    ∀ (p : Int) (cs : List S34), 8 ≤ p → p ≤ s.size → rest s d p = some cs → cs.length < d → rest t d p = some (cs ++ [⟨abcd, s.size + 8, k⟩]) := by
  induction d with
  | zero => intro p cs _ _ _ h; omega
  | succ d ih =>
    intro p cs hp hps h hl
    rcases rest_cons h with ⟨h1, rfl⟩ | ⟨h1, h2, cs', h3, rfl⟩
    · obtain rfl : p = s.size := by omega
      unfold rest
      rw [if_pos (by omega), if_neg (by omega), h4, if_neg (by omega)]
      have e : rest t d ((s.size : Int) + 8 + ((k : Int) + (k : Int) % 2)) = some [] := by
        cases d with
        | zero => unfold rest; rw [if_neg (by omega)]
        | succ d => unfold rest; rw [if_neg (by omega)]
      rw [e, Option.map_some, show ((s.size : Int)).toNat = s.size from rfl, show ((s.size : Int) + 4).toNat = s.size + 4 by omega, hid]
      rfl
    · have hn := num4_range s (p + 4) (by omega) (by omega)
      have e1 : num4 t (p + 4) = num4 s (p + 4) := by unfold num4; rw [hsame _ _ (by omega) (by omega)]
      have e2 := hsame p.toNat (p + 4).toNat (by omega) (by omega)
      unfold rest
      rw [if_pos (by omega), if_neg (by omega), e1, if_neg (by omega), e2, ih _ cs' (by omega) (by omega) h3 (by simp at hl; omega)]
      rfl
theorem has_snoc (id : ByteArray) (x : S34) (hx : isId x id = false) : ∀ cs : List S34, has id (cs ++ [x]) = has id cs
  | [] => by show (isId x id || false) = false; rw [hx]; rfl
  | c :: L => by show (isId c id || has id (L ++ [x])) = (isId c id || has id L); rw [has_snoc id x hx L]
theorem lone_snoc (id : ByteArray) (x : S34) (hx : isId x id = false) : ∀ cs : List S34, lone id (cs ++ [x]) = lone id cs
  | [] => by show (if isId x id = true then _ else false) = false; rw [hx, if_neg (by decide)]
  | c :: L => by
    show (if isId c id = true then !has id (L ++ [x]) else lone id (L ++ [x])) = (if isId c id = true then !has id L else lone id L)
    rw [lone_snoc id x hx L, has_snoc id x hx L]
theorem find_snoc (id : ByteArray) (x : S34) : ∀ (cs : List S34) (i : Nat), has id cs = true → wave_one.find id (cs ++ [x]) i = wave_one.find id cs i
  | [], i, h => nomatch h
  | c :: L, i, h => by
    rw [List.cons_append, find_cons, find_cons]
    by_cases e : isId c id = true
    · rw [if_pos e, if_pos e]
    · rw [if_neg e, if_neg e]
      unfold has at h
      rw [Bool.eq_false_iff.2 e, Bool.false_or] at h
      exact find_snoc id x L (i + 1) h
theorem rd_snoc (x : S34) (cs : List S34) {i : Int} (h0 : 0 ≤ i) (h1 : i < cs.length) : rd_T34 (cs ++ [x]) i = rd_T34 cs i := by
  unfold rd_T34
  rw [List.getD_eq_getElem?_getD, List.getD_eq_getElem?_getD, List.getElem?_append_left (by omega)]
/-- The text with a chunk more: its size told anew. -/
theorem more_wave (s m t : ByteArray) (k : Nat) (hk : k % 2 = 0) (hk14 : k ≤ 14) (c b : Int) (h d tl : ByteArray) (hw : waveOf s = some (c, b, h, d, tl)) (cs : List S34) (hc : chunksOf s = some cs) (hl : cs.length < 64) (hs : s.size ≤ 4056)
    (hm : bytesOf m = [97, 98, 99, 100] ++ low 4 k ++ List.replicate k 0)
    (ht : bytesOf t = [82, 73, 70, 70] ++ low 4 ((s.size : Int) + (8 + k) - 8) ++ (bytesOf s).drop 8 ++ bytesOf m) :
    12 ≤ h.size ∧ h.size ≤ s.size ∧ ∃ h', waveOf t = some (c, b, h', d, tl ++ m) ∧ h'.size = h.size ∧ h'.extract 8 h'.size = h.extract 8 h.size := by
  have hms : m.size = 8 + k := by
    have := congrArg List.length hm
    rw [bytesOf_length, List.length_append, List.length_append, low_length, List.length_replicate] at this
    simpa using this
  have hc0 := hc
  unfold chunksOf at hc0
  split at hc0
  · rename_i hf
    unfold front at hf
    obtain ⟨f1, f2, f3, f4, f5⟩ := of_decide_eq_true hf
    have hsl : (bytesOf s).length = s.size := bytesOf_length s
    have hts : t.size = s.size + 8 + k := by
      have := congrArg List.length ht
      rw [bytesOf_length, List.length_append, List.length_append, List.length_append, low_length, List.length_drop, hsl, bytesOf_length, hms] at this
      simp at this
      omega
    have h8 : ([82, 73, 70, 70] ++ low 4 ((s.size : Int) + (8 + k) - 8)).length = 8 := by rw [List.length_append, low_length]; rfl
    have ex : ∀ i j : Nat, bytesOf (t.extract i j) = ((bytesOf t).drop i).take (j - i) := fun i j => Bytes.of_extract t i j
    have hd8 : ∀ j, 8 ≤ j → (bytesOf t).drop j = ((bytesOf s).drop j) ++ (bytesOf m).drop (j - s.size) := by
      intro j hj
      rw [ht, List.append_assoc, show j = 8 + (j - 8) by omega, drop_head h8, List.drop_append, List.drop_drop, List.length_drop, hsl]
      congr 2
      omega
    have hsame : ∀ a b, 8 ≤ a → b ≤ s.size → t.extract a b = s.extract a b := by
      intro a b ha hb
      apply Bytes.inj
      rw [ex, Bytes.of_extract, hd8 a ha]
      rcases Nat.lt_or_ge a b with hab | hab
      · rw [List.take_append_of_le_length (by rw [List.length_drop, hsl]; omega)]
      · rw [show b - a = 0 by omega, List.take_zero, List.take_zero]
    have hdm : ∀ j, (bytesOf t).drop (s.size + j) = (bytesOf m).drop j := fun j => by
      rw [hd8 _ (by omega), List.drop_eq_nil_of_le (by rw [hsl]; omega), List.nil_append, show s.size + j - s.size = j by omega]
    have h4 : num4 t (s.size + 4) = k := by
      unfold num4
      rw [show ((s.size : Int) + 4).toNat = s.size + 4 by omega, show ((s.size : Int) + 4 + 4).toNat = s.size + 8 by omega, ex, hdm, hm, show s.size + 8 - (s.size + 4) = 4 by omega]
      show val (low 4 (k : Int)) = _
      rw [val_low]
      omega
    have hid : t.extract s.size (s.size + 4) = abcd := by
      apply Bytes.inj
      rw [ex, show (bytesOf t).drop s.size = (bytesOf m).drop 0 from hdm 0, hm, show s.size + 4 - s.size = 4 by omega]
      rfl
    have hft : front t = true := by
      unfold front
      refine decide_eq_true ⟨by omega, by omega, ?_, ?_, ?_⟩
      · rw [ex, ht]; rfl
      · unfold num4
        rw [show ((4 : Int)).toNat = 4 from rfl, show ((4 : Int) + 4).toNat = 8 from rfl, ex, ht]
        show val (low 4 ((s.size : Int) + (8 + k) - 8)) = _
        rw [val_low]
        omega
      · rw [hsame 8 12 (by omega) (by omega)]; exact f5
    have hct : chunksOf t = some (cs ++ [⟨abcd, s.size + 8, k⟩]) := by
      unfold chunksOf
      rw [if_pos hft]
      exact rest_more s t k hk hts h4 hid hsame 64 12 cs (by decide) (by omega) hc0 hl
    obtain ⟨q1, q2, q3⟩ := chunks_in hc
    unfold waveOf at hw
    rw [hc, Option.bind_some] at hw
    unfold waveIn at hw
    split at hw
    · rename_i hcond
      rw [found_is, found_is] at hcond
      have xf : ∀ id, isId (⟨abcd, s.size + 8, k⟩ : S34) id = (abcd.toList == id.toList) := fun _ => rfl
      have x1 : isId (⟨abcd, s.size + 8, k⟩ : S34) fmtId = false := by rw [xf]; decide +kernel
      have x2 : isId (⟨abcd, s.size + 8, k⟩ : S34) dataId = false := by rw [xf]; decide +kernel
      have e1 := find_snoc fmtId ⟨abcd, s.size + 8, k⟩ cs 0 (lone_has hcond.1)
      have e2 := find_snoc dataId ⟨abcd, s.size + 8, k⟩ cs 0 (lone_has hcond.2.1)
      have g1 := found_in (cs := cs) (id := fmtId) (by rw [found_is]; exact hcond.1)
      have g2 := found_in (cs := cs) (id := dataId) (by rw [found_is]; exact hcond.2.1)
      have r1 := rd_snoc ⟨abcd, s.size + 8, k⟩ cs g1.1 g1.2
      have r2 := rd_snoc ⟨abcd, s.size + 8, k⟩ cs g2.1 g2.2
      have i1 := q3 _ (rd_mem g1.1 g1.2)
      have i2 := q3 _ (rd_mem g2.1 g2.2)
      obtain ⟨x, hx⟩ : ∃ x, x = rd_T34 cs (wave_one.find fmtId cs 0) := ⟨_, rfl⟩
      obtain ⟨y, hy⟩ : ∃ y, y = rd_T34 cs (wave_one.find dataId cs 0) := ⟨_, rfl⟩
      have hwt : waveOf t = waveAt t x y := by
        unfold waveOf
        rw [hct, Option.bind_some]
        unfold waveIn
        rw [found_is, found_is, lone_snoc _ _ x1, lone_snoc _ _ x2, e1, e2, if_pos hcond, r1, r2, ← hx, ← hy]
      rw [← hx] at hw i1
      rw [← hy] at hw i2
      unfold waveAt at hw
      dsimp only at hw
      split at hw
      · rename_i hc2
        have hw := Option.some.inj hw
        obtain ⟨w1, hw⟩ := Prod.mk.inj hw; obtain ⟨w2, hw⟩ := Prod.mk.inj hw; obtain ⟨w3, hw⟩ := Prod.mk.inj hw; obtain ⟨w4, w5⟩ := Prod.mk.inj hw
        obtain ⟨yn, hyn⟩ : ∃ yn : Nat, y.f1 = yn := ⟨y.f1.toNat, by omega⟩
        obtain ⟨zn, hzn⟩ : ∃ zn : Nat, y.f2 = zn := ⟨y.f2.toNat, by omega⟩
        rw [hyn] at w3 w4 w5
        rw [hzn] at w4 w5
        rw [hyn, hzn] at i2
        have hhs : h.size = yn := by rw [← w3, ByteArray.size_extract]; omega
        refine ⟨by omega, by omega, t.extract 0 yn, ?_, ?_, ?_⟩
        · rw [hwt]
          unfold waveAt
          dsimp only
          have tt : t.extract x.f1.toNat (x.f1 + 16).toNat = s.extract x.f1.toNat (x.f1 + 16).toNat := hsame _ _ (by omega) (by omega)
          rw [tt, if_pos hc2, w1, w2, hyn, hzn]
          have e4 : t.extract ((yn : Int)).toNat ((yn : Int) + (zn : Int)).toNat = d := by rw [hsame _ _ (by omega) (by omega)]; exact w4
          have e5 : t.extract ((yn : Int) + (zn : Int)).toNat t.size = tl ++ m := by
            apply Bytes.inj
            rw [ex, Bytes.of_append, ← w5, Bytes.of_extract, show ((yn : Int) + (zn : Int)).toNat = yn + zn by omega, hd8 _ (by omega), show yn + zn - s.size = 0 by omega, List.drop_zero]
            rw [List.take_of_length_le (by rw [List.length_append, List.length_drop, hsl, bytesOf_length, hms]; omega), List.take_of_length_le (by rw [List.length_drop, hsl]; omega)]
          rw [e4, e5]
          rfl
        · rw [hhs, ByteArray.size_extract]; omega
        · have z1 : (t.extract 0 yn).size = yn := by rw [ByteArray.size_extract]; omega
          rw [z1, hhs, ← w3, ByteArray.extract_extract, ByteArray.extract_extract]
          rw [show 0 + 8 = 8 from rfl, show min (0 + yn) yn = yn by omega, show ((yn : Int)).toNat = yn from rfl, show min (0 + yn) yn = yn by omega]
          exact hsame _ _ (by omega) (by omega)
      · cases hw
    · cases hw
  · cases hc0
end Go.Proofs.Ytkngkmemcokbfaa.PWv
