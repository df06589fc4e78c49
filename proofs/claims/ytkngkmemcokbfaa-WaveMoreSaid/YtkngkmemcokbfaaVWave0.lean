/- Layer 21: a file's samples, plain. No program in sight but the printed pieces. -/
import Derived.Test.YtkngkmemcokbfaaVRiff
import Derived.Test.YtkngkmemcokbfaaPWvx6
import Derived.Test.YtkngkmemcokbfaaPWvx7
import Derived.Test.YtkngkmemcokbfaaPWvx8
import Derived.Lib.Hide
namespace Go.Proofs.Ytkngkmemcokbfaa.PWv
open Go Go.RowKit Go.Proofs.YtkngkmemcokbfaaW.PrintWords Go.Proofs.YtkngkmemcokbfaaW.PrintMore
set_option linter.unusedVariables false
set_option linter.unusedSimpArgs false
def fmtId : ByteArray := ⟨#[102, 109, 116, 32]⟩
def dataId : ByteArray := ⟨#[100, 97, 116, 97]⟩
/-- The number of two bytes. -/
def num2 (s : ByteArray) (p : Nat) : Int := val (bytesOf (s.extract p (p + 2)))
def mayF (c b : Int) : Bool := decide ((c = 1 ∨ c = 2) ∧ (b = 8 ∨ b = 16))
/-- What the bytes of the chunk of the format tell. -/
def formOk (t : ByteArray) : Bool := mayF (num2 t 2) (num2 t 14) && decide (num2 t 0 = 1) && decide (num2 t 12 = num2 t 2 * num2 t 14 / 8)
def Wv := Int × Int × ByteArray × ByteArray × ByteArray
def waveAt (s : ByteArray) (a b : S34) : Option Wv :=
  let t := s.extract a.f1.toNat (a.f1 + 16).toNat
  if a.f2 = 16 ∧ formOk t = true ∧ b.f2 % (num2 t 2 * num2 t 14 / 8) = 0 then some (num2 t 2, num2 t 14, s.extract 0 b.f1.toNat, s.extract b.f1.toNat (b.f1 + b.f2).toNat, s.extract (b.f1 + b.f2).toNat s.size) else none
def waveIn (s : ByteArray) (cs : List S34) : Option Wv :=
  if wave_one.found cs fmtId = true ∧ wave_one.found cs dataId = true ∧ wave_one.find fmtId cs 0 ≤ wave_one.find dataId cs 0 then
    waveAt s (rd_T34 cs (wave_one.find fmtId cs 0)) (rd_T34 cs (wave_one.find dataId cs 0)) else none
def waveOf (s : ByteArray) : Option Wv := (chunksOf s).bind (waveIn s)
def toldW : Option Wv → Int × Int × ByteArray × ByteArray × ByteArray × Int
  | none => (0, 0, ⟨#[]⟩, ⟨#[]⟩, ⟨#[]⟩, 2100)
  | some (c, b, h, d, t) => (c, b, h, d, t, 0)
theorem num2_range (s : ByteArray) (p : Nat) (h : p + 2 ≤ s.size) : 0 ≤ num2 s p ∧ num2 s p < 65536 := by
  have r := val_range (bytesOf (s.extract p (p + 2))) (fun _ h => Bytes.range h)
  rw [bytesOf_length, ByteArray.size_extract, show min (p + 2) s.size - p = 2 by omega] at r
  exact r
theorem two_of {k : Nat} {s : ByteArray} (p : Nat) (h : p + 2 ≤ s.size) (hs : s.size ≤ 4096) : wave_two.f (k + 7) s p = some (num2 s p) := by
  unfold wave_two.f
  rw [Num.w64 (n := (p : Int) + 2) (by omega) (by omega), if_pos (by omega), if_pos (by omega), if_pos (by omega)]
  rw [get_in (by rw [ByteArray.size_extract]; omega) (by rw [ByteArray.size_extract]; omega)]
  rfl
theorem may_of (c b : Int) : pcm_May.f c b = some (mayF c b) := by
  unfold pcm_May.f mayF
  by_cases c1 : c = 1
  · subst c1
    by_cases c2 : b = 8
    · subst c2; rfl
    · rw [if_pos rfl, if_neg c2]
      congr 1
      by_cases c3 : b = 16
      · subst c3; rfl
      · rw [beq_eq_false_iff_ne.2 c3]; symm; exact decide_eq_false (by omega)
  · rw [if_neg c1]
    by_cases c2 : c = 2
    · subst c2
      rw [if_pos rfl]
      by_cases c2 : b = 8
      · subst c2; rfl
      · rw [if_neg c2]
        congr 1
        by_cases c3 : b = 16
        · subst c3; rfl
        · rw [beq_eq_false_iff_ne.2 c3]; symm; exact decide_eq_false (by omega)
    · rw [if_neg c2]; congr 1; symm; exact decide_eq_false (by omega)
theorem frame_of {c b : Int} (h : mayF c b = true) : pcm_Frame.f c b = some (c * b / 8) ∧ 1 ≤ c * b / 8 ∧ c * b / 8 ≤ 4 := by
  have h := of_decide_eq_true h
  obtain ⟨h1 | h1, h2 | h2⟩ := h <;> subst h1 <;> subst h2 <;> exact ⟨by decide +kernel, by decide, by decide⟩
theorem format_of (k : Nat) (t : ByteArray) (ht : t.size = 16) : wave_format.f (k + 7) t = some (num2 t 2, num2 t 14, formOk t) := by
  unfold wave_format.f
  have e2 := two_of (k := k) (s := t) 2 (by omega) (by omega)
  have e14 := two_of (k := k) (s := t) 14 (by omega) (by omega)
  have e0 := two_of (k := k) (s := t) 0 (by omega) (by omega)
  have e12 := two_of (k := k) (s := t) 12 (by omega) (by omega)
  rw [show (2 : Int) = ((2 : Nat) : Int) from rfl, e2, Option.bind_some, show (14 : Int) = ((14 : Nat) : Int) from rfl, e14, Option.bind_some, may_of, Option.bind_some]
  unfold formOk
  by_cases c : mayF (num2 t 2) (num2 t 14) = true
  · rw [if_pos c, show (0 : Int) = ((0 : Nat) : Int) from rfl, e0, Option.bind_some, c]
    by_cases c0 : num2 t 0 = 1
    · rw [if_pos c0, show (12 : Int) = ((12 : Nat) : Int) from rfl, e12, Option.bind_some, (frame_of c).1, Option.bind_some, decide_eq_true c0]
      simp
      rfl
    · rw [if_neg c0, decide_eq_false c0]; rfl
  · rw [if_neg c, Bool.eq_false_iff.2 c]; rfl
theorem frames_of (d : ByteArray) {c b : Int} (h : mayF c b = true) : pcm_Frames.f d c b = some (decide ((d.size : Int) % (c * b / 8) = 0)) := by
  unfold pcm_Frames.f
  have h2 := frame_of h
  rw [h2.1, Option.bind_some, if_neg (by omega)]
  congr 1
theorem rest_cons {s : ByteArray} {d : Nat} {p : Int} {cs : List S34} (h : rest s (d + 1) p = some cs) : (¬ p < (s.size : Int) ∧ cs = []) ∨ (p + 8 ≤ (s.size : Int) ∧ num4 s (p + 4) + num4 s (p + 4) % 2 ≤ (s.size : Int) - (p + 8) ∧ ∃ cs', rest s d (p + 8 + (num4 s (p + 4) + num4 s (p + 4) % 2)) = some cs' ∧ cs = ⟨s.extract p.toNat (p + 4).toNat, p + 8, num4 s (p + 4)⟩ :: cs') := by
  unfold rest at h
  split at h
  · split at h
    · cases h
    · split at h
      · cases h
      · obtain ⟨cs', h1, h2⟩ := Option.map_eq_some_iff.1 h
        exact .inr ⟨by omega, by omega, cs', h1, h2.symm⟩
  · exact .inl ⟨by assumption, (Option.some.inj h).symm⟩
theorem inside (s : ByteArray) (d : Nat) : ∀ (p : Int) (cs : List S34), 0 ≤ p → rest s d p = some cs → cs.length ≤ d ∧ ∀ c ∈ cs, p + 8 ≤ c.f1 ∧ 0 ≤ c.f2 ∧ c.f1 + c.f2 ≤ s.size := by
  induction d with
  | zero =>
    intro p cs hp h
    unfold rest at h
    split at h
    · cases h
    · obtain rfl := Option.some.inj h
      exact ⟨Nat.zero_le _, fun c hc => nomatch hc⟩
  | succ d ih =>
    intro p cs hp h
    rcases rest_cons h with ⟨_, rfl⟩ | ⟨h1, h2, cs', h3, rfl⟩
    · exact ⟨Nat.zero_le _, fun c hc => nomatch hc⟩
    · have hn := num4_range s (p + 4) (by omega) (by omega)
      have hi := ih _ cs' (by omega) h3
      refine ⟨by simp; exact hi.1, fun c hc => ?_⟩
      rcases List.mem_cons.1 hc with rfl | hc
      · exact ⟨by show p + 8 ≤ p + 8; omega, hn.1, by show p + 8 + num4 s (p + 4) ≤ _; omega⟩
      · have := hi.2 c hc
        omega
theorem chunks_in {s : ByteArray} {cs : List S34} (h : chunksOf s = some cs) : s.size ≤ 4096 ∧ cs.length ≤ 64 ∧ ∀ c ∈ cs, 20 ≤ c.f1 ∧ 0 ≤ c.f2 ∧ c.f1 + c.f2 ≤ s.size := by
  unfold chunksOf at h
  split at h
  · rename_i hf
    unfold front at hf
    have hf := of_decide_eq_true hf
    have hi := inside s 64 12 cs (by decide) h
    exact ⟨hf.2.1, hi.1, fun c hc => by have := hi.2 c hc; omega⟩
  · cases h
theorem rd_mem {cs : List S34} {i : Int} (h0 : 0 ≤ i) (h1 : i < cs.length) : rd_T34 cs i ∈ cs := by
  unfold rd_T34
  rw [List.getD_eq_getElem?_getD, List.getElem?_eq_getElem (by omega)]
  exact List.getElem_mem _
theorem found_in {cs : List S34} {id : ByteArray} (h : wave_one.found cs id = true) : 0 ≤ wave_one.find id cs 0 ∧ wave_one.find id cs 0 < cs.length := by
  unfold wave_one.found at h
  rw [Bool.and_eq_true, decide_eq_true_iff] at h
  have h1 := h.1
  rcases wave_one.find_range id cs 0 with e | e
  · omega
  · omega
theorem none_find {cs : List S34} {id : ByteArray} : wave_one.find id cs 0 = -1 ∨ 0 ≤ wave_one.find id cs 0 ∧ wave_one.find id cs 0 < cs.length := by
  rcases wave_one.find_range id cs 0 with e | e
  · exact .inl e
  · right; omega
theorem parse_j (k : Nat) (s : ByteArray) (cs : List S34) (i j : Int) (hs : s.size ≤ 4096) (hl : cs.length ≤ 64) (hin : ∀ c ∈ cs, 20 ≤ c.f1 ∧ 0 ≤ c.f2 ∧ c.f1 + c.f2 ≤ s.size) (hi0 : 0 ≤ i) (hi1 : i < cs.length) (hj0 : 0 ≤ j) (hj1 : j < cs.length) :
    wave_Parse.j0 (k + 8) s cs i j ((rd_T34 cs i).f2 != 16) = some (toldW (waveAt s (rd_T34 cs i) (rd_T34 cs j))) := by
  have ha := hin _ (rd_mem hi0 hi1)
  have hb := hin _ (rd_mem hj0 hj1)
  rw [show k + 8 = (k + 7) + 1 by omega]
  simp only [wave_Parse.j0]
  obtain ⟨a, ha_⟩ : ∃ a, a = rd_T34 cs i := ⟨_, rfl⟩
  obtain ⟨b, hb_⟩ : ∃ b, b = rd_T34 cs j := ⟨_, rfl⟩
  rw [← ha_] at ha ⊢
  rw [← hb_] at hb ⊢
  unfold waveAt
  by_cases c16 : a.f2 = 16
  · rw [c16, if_neg (by decide), if_pos hi0, if_pos hi1, if_pos (by omega), Num.w64 (n := a.f1 + 16) (by omega) (by omega), if_pos (by omega), if_pos (by omega)]
    obtain ⟨t, ht⟩ : ∃ t, t = s.extract a.f1.toNat (a.f1 + 16).toNat := ⟨_, rfl⟩
    have hts : t.size = 16 := by rw [ht, ByteArray.size_extract]; omega
    rw [← ht, format_of k t hts, Option.bind_some, if_pos hj0, if_pos hj1, if_pos (by omega), Num.w64 (n := b.f1 + b.f2) (by omega) (by omega), if_pos (by omega), if_pos (by omega)]
    dsimp only
    by_cases cf : formOk t = true
    · have hm : mayF (num2 t 2) (num2 t 14) = true := by
        unfold formOk at cf
        rw [Bool.and_eq_true, Bool.and_eq_true] at cf
        exact cf.1.1
      have hds : ((s.extract b.f1.toNat (b.f1 + b.f2).toNat).size : Int) = b.f2 := by rw [ByteArray.size_extract]; omega
      rw [if_pos cf, frames_of _ hm, Option.bind_some, hds]
      by_cases cm : b.f2 % (num2 t 2 * num2 t 14 / 8) = 0
      · rw [decide_eq_true cm, if_pos rfl, if_pos (by omega), Num.w64 (n := b.f1 + b.f2) (by omega) (by omega), if_pos (by omega), if_pos (by omega), if_pos ⟨rfl, cf, cm⟩]
        rfl
      · rw [decide_eq_false cm, if_neg (by decide), if_neg (fun h => cm h.2.2)]
        rfl
    · rw [if_neg cf, if_neg (fun h => cf h.2.1)]
      rfl
  · rw [bne_iff_ne.2 c16, if_pos rfl]
    rw [if_neg (fun h => c16 h.1)]
    rfl
theorem parse_of (k : Nat) (s : ByteArray) (hs : s.size ≤ 140737488351232) : wave_Parse.f (k + 160) s = some (toldW (waveOf s)) := by
  have bad : ∀ cs i j, wave_Parse.j0 (k + 160) s cs i j true = some (toldW none) := fun cs i j => by
    rw [show k + 160 = (k + 159) + 1 by omega]
    simp only [wave_Parse.j0]; rfl
  unfold wave_Parse.f waveOf
  rw [chunks_prog k s hs, Option.bind_some]
  cases h : chunksOf s with
  | none =>
    rw [show told [] none = ([], 2000) from rfl]
    unfold wave_one.f
    dsimp only
    rw [if_pos (by decide), Option.bind_some, if_pos (by decide), Option.bind_some, if_neg (show ¬ (2000 : Int) = 0 by decide), bad]
    rfl
  | some cs =>
    obtain ⟨h1, h2, h3⟩ := chunks_in h
    rw [show told [] (some cs) = (cs, 0) from rfl]
    unfold wave_one.f
    dsimp only
    rw [if_pos (by omega), Option.bind_some, if_pos (by omega), Option.bind_some]
    rw [if_pos rfl]
    show _ = some (toldW (waveIn s cs))
    unfold waveIn
    dsimp only
    rw [show (⟨#[102, 109, 116, 32]⟩ : ByteArray) = fmtId from rfl, show (⟨#[100, 97, 116, 97]⟩ : ByteArray) = dataId from rfl]
    by_cases cf : wave_one.found cs fmtId = true
    · rw [if_pos cf]
      by_cases cd : wave_one.found cs dataId = true
      · have hf := found_in cf
        have hd := found_in cd
        rw [if_pos cd]
        by_cases ci : wave_one.find dataId cs 0 < wave_one.find fmtId cs 0
        · rw [if_pos ci, bad, if_neg (fun h => by omega)]
        · rw [if_neg ci, if_pos hf.1, if_pos hf.2, show k + 160 = (k + 152) + 8 by omega, parse_j _ s cs _ _ h1 h2 h3 hf.1 hf.2 hd.1 hd.2, if_pos ⟨cf, cd, by omega⟩]
      · rw [if_neg cd, bad, if_neg (fun h => cd h.2.1)]
    · rw [if_neg cf, bad, if_neg (fun h => cf h.1)]
end Go.Proofs.Ytkngkmemcokbfaa.PWv
