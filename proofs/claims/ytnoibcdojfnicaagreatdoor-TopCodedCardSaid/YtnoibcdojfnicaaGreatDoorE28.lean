/- A part of the proof of a law of descanttop: this session's own texts and printed texts, shortened and joined. -/
import Derived.Test.YtnoibcdojfnicaaGreatDoorE27
set_option linter.unusedVariables false
set_option linter.unusedSimpArgs false
set_option maxRecDepth 100000
set_option maxHeartbeats 16000000
namespace Go.Proofs.YtnoibcdojfnicaaGreatDoor.PG
open Go.Proofs.YtnoibcdojfnicaaGreatDoorW.Short
open Bool renaming true → Y, false → J
open Go Go.RowKit Go.Proofs.YtnoibcdojfnicaaGreatDoorW.PrintWords Go.Proofs.YtnoibcdojfnicaaGreatDoorW.PrintMore Go.Proofs.YtnoibcdojfnicaaGreatDoorW.PrintLast
open Go.Proofs.YtnoibcdojfnicaaGreatDoor.PL (lineOf putOne turnL)
open Go.Proofs.YtnoibcdojfnicaaGreatDoor.PSh (dn waste_down)
theorem turn_len1 {one : Int → Int → Int × Int} : ∀ (xs : List Int) (c : PL.Chain) (out o : List Int), turnL one xs c out = some o → o.length = out.length + xs.length
 | [], c, out, o, h => by
  obtain rfl := Option.some.inj (show some out = some o from h)
  rfl
 | x :: r, c, out, o, h => by
  simp only [turnL] at h
  split at h
  ·have := turn_len1 r _ _ o h
   rw [List.length_append, List.length_singleton] at this
   rw [List.length_cons]
   omega
  ·cases h
abbrev ln (p : List Int) : List Int × Int := lineOf putOne p
theorem ln_in (p : List Int) : (ln p).1.length ≤ 256 ∧ ((ln p).2 = 0 ∨ (ln p).2 = 1600) := by
 unfold ln lineOf
 split
 ·rename_i h
  cases e : turnL putOne p PL.chZero [] with
  | some o =>
   have := turn_len1 _ _ _ _ e
   simp only [List.length_nil, Nat.zero_add] at this
   exact ⟨by show o.length ≤ 256; omega, Or.inl rfl⟩
  | none => exact ⟨by show (0 : Nat) ≤ 256; omega, Or.inr rfl⟩
 ·exact ⟨by show (0 : Nat) ≤ 256; omega, Or.inr rfl⟩
def allL (l : List (List Int)) : List Int := l.flatMap fun p => (ln p).1
def badL (e : Int) (l : List (List Int)) : Int := l.foldl (fun e p => mx e (ln p).2) e
theorem put_ln (p : List Int) : line_Put.f p = some (ln p) := rfl
theorem mx0 {a b : Int} (ha : 0 ≤ a) (hb : 0 ≤ b) : mx a b = 0 ↔ a = 0 ∧ b = 0 := by unfold mx; split <;> omega
theorem mx_ge {a b : Int} (ha : 0 ≤ a) : 0 ≤ mx a b := by unfold mx; split <;> omega
theorem badL_0 : ∀ (l : List (List Int)) (e : Int), 0 ≤ e → (badL e l = 0 ↔ e = 0 ∧ ∀ p ∈ l, (ln p).2 = 0)
 | [], e, h => by simp [badL]
 | p :: l, e, h => by
  have hp : 0 ≤ (ln p).2 := by rcases (ln_in p).2 with e | e <;> omega
  show badL (mx e (ln p).2) l = 0 ↔ _
  rw [badL_0 l _ (mx_ge h), mx0 h hp]
  constructor
  ·rintro ⟨⟨a, b⟩, c⟩
   refine ⟨a, fun q hq => ?_⟩
   rcases List.mem_cons.1 hq with rfl | hq
   ·exact b
   ·exact c q hq
  ·rintro ⟨a, b⟩
   exact ⟨⟨a, b p (by simp)⟩, fun q hq => b q (by simp [hq])⟩
def codedEnd (n : Int) (l : List (List Int)) (e : Int) : Option (ByteArray × Int × Bool) := (residual_Put.f (allL l)).bind fun r => if badL e l = 0 then some (r.1, n, (r.2 == 0)) else some (r.1, n, false)
theorem coded_l1 (k : Nat) (n e : Int) (l : List (List Int)) (hl : l.length ≤ 2) : segment_sound_coded.l1 (k + 3) n e [] l (l.length : Int) 0 = codedEnd n l e := by
 have w1 : wrap64 (0 + 1) = 1 := by decide +kernel
 have w2 : wrap64 (1 + 1) = 2 := by decide +kernel
 unfold codedEnd
 rcases l with _ | ⟨p, _ | ⟨q, _ | ⟨r, t⟩⟩⟩
 ·simp only [segment_sound_coded.l1]
  rw [if_neg (by simp)]
  rfl
 ·have hp := (ln_in p).1
  simp only [segment_sound_coded.l1]
  rw [if_pos (by simp), if_pos (by omega), if_pos (by simp), show rd_L1 [p] 0 = p from rfl, put_ln]
  simp only [Option.bind_some]
  rw [if_pos (by simp; omega), w1, if_neg (by simp), List.nil_append]
  show _ = (residual_Put.f (allL [p])).bind _
  rw [show allL [p] = (ln p).1 by simp [allL]]
  rfl
 ·have hp := (ln_in p).1
  have hq := (ln_in q).1
  simp only [segment_sound_coded.l1]
  rw [if_pos (by simp), if_pos (by omega), if_pos (by simp), show rd_L1 [p, q] 0 = p from rfl, put_ln]
  simp only [Option.bind_some]
  rw [if_pos (by simp; omega), w1, if_pos (by simp), if_pos (by omega), if_pos (by simp), show rd_L1 [p, q] 1 = q from rfl, put_ln]
  simp only [Option.bind_some]
  rw [if_pos (by simp; omega), w2, if_neg (by simp), List.nil_append]
  show _ = (residual_Put.f (allL [p, q])).bind _
  rw [show allL [p, q] = (ln p).1 ++ (ln q).1 by simp [allL]]
  rfl
 ·simp at hl
theorem turnO_len (chs : List (List Int)) (w : Int) : (turnO chs w).1.length ≤ 2 ∧ ((turnO chs w).2 = 0 ∨ (turnO chs w).2 = 1700) := by
 unfold turnO
 by_cases h : PS.mayL chs = true
 ·rw [if_pos h]
  rcases chs with _ | ⟨x, _ | ⟨y, _ | ⟨z, t⟩⟩⟩
  ·exact ⟨by show (0 : Nat) ≤ 2; omega, Or.inl rfl⟩
  ·exact ⟨by show (1 : Nat) ≤ 2; omega, Or.inl rfl⟩
  ·dsimp only
   split
   ·exact ⟨by show (2 : Nat) ≤ 2; omega, Or.inl rfl⟩
   ·exact ⟨by show (0 : Nat) ≤ 2; omega, Or.inr rfl⟩
  ·exact absurd h (by simp [PS.mayL])
 ·rw [if_neg h]
  exact ⟨by show (0 : Nat) ≤ 2; omega, Or.inr rfl⟩
theorem side_is (chs : List (List Int)) (h2 : ∀ xs ∈ chs, xs.length ≤ 4096) (hl : chs.length ≤ 2) (k : Nat) (hk : 8204 ≤ k) : side_Put.f k chs = some (turnO chs (-1)) := by
 rw [show k = (k - 8204) + 4096 + 4096 + 12 by omega]
 exact put_is chs (by omega) (fun xs hx => by have := h2 xs hx; omega) 4096 h2 _
def downs (n : Int) (chs : List (List Int)) : List (List Int) := chs.map fun xs => xs.map (dn n)
theorem coded_l0 (k : Nat) (n : Int) (chs : List (List Int)) (h12 : chs.length = 1 ∨ chs.length = 2) (hd : ∀ xs ∈ chs, shift_Down.f xs n = some (xs.map (dn n), 0)) (hb : ∀ xs ∈ chs, xs.length ≤ 4096) (hk : 9000 ≤ k) : segment_sound_coded.l0 k chs n (chs.length : Int) 0 = codedEnd n (turnO (downs n chs) (-1)).1 (turnO (downs n chs) (-1)).2 := by
 have w1 : wrap64 (0 + 1) = 1 := by decide +kernel
 have w2 : wrap64 (1 + 1) = 2 := by decide +kernel
 obtain ⟨m, hm, rfl⟩ : ∃ m, 8997 ≤ m ∧ k = m + 3 := ⟨k - 3, by omega, by omega⟩
 rcases chs with _ | ⟨a, _ | ⟨b, _ | ⟨c, t⟩⟩⟩
 ·simp at h12
 ·have ha := hd a (by simp)
  have hs := side_is (downs n [a]) (by simp [downs]; exact hb a (by simp)) (by simp [downs]) (m + 1) (by omega)
  simp only [segment_sound_coded.l0]
  rw [if_pos (by simp), if_pos (by omega), if_pos (by simp), show rd_L1 [a] 0 = a from rfl, ha]
  simp only [Option.bind_some]
  rw [w1, if_neg (by simp), show ([a].set (0 : Int).toNat (a.map (dn n))) = downs n [a] from rfl, hs]
  simp only [Option.bind_some]
  have := coded_l1 (m - 2) n (turnO (downs n [a]) (-1)).2 (turnO (downs n [a]) (-1)).1 (turnO_len _ _).1
  rw [show m + 1 = m - 2 + 3 by omega]
  exact this
 ·have ha := hd a (by simp)
  have hb' := hd b (by simp)
  have hs := side_is (downs n [a, b]) (by simp [downs]; exact ⟨hb a (by simp), hb b (by simp)⟩) (by simp [downs]) m (by omega)
  simp only [segment_sound_coded.l0]
  rw [if_pos (by simp), if_pos (by omega), if_pos (by simp), show rd_L1 [a, b] 0 = a from rfl, ha]
  simp only [Option.bind_some]
  rw [w1, if_pos (by simp), if_pos (by omega), if_pos (by simp), show rd_L1 ([a, b].set (0 : Int).toNat (a.map (dn n))) 1 = b from rfl, hb']
  simp only [Option.bind_some]
  rw [w2, if_neg (by simp), show (([a, b].set (0 : Int).toNat (a.map (dn n))).set (1 : Int).toNat (b.map (dn n))) = downs n [a, b] from rfl, hs]
  simp only [Option.bind_some]
  have := coded_l1 (m - 3) n (turnO (downs n [a, b]) (-1)).2 (turnO (downs n [a, b]) (-1)).1 (turnO_len _ _).1
  rw [show m - 3 + 3 = m by omega] at this
  exact this
 ·simp at h12
end Go.Proofs.YtnoibcdojfnicaaGreatDoor.PG
namespace Go.Proofs.YtnoibcdojfnicaaGreatDoor.PG
open Go.Proofs.YtnoibcdojfnicaaGreatDoorW.Short
open Bool renaming true → Y, false → J
open Go Go.RowKit Go.Proofs.YtnoibcdojfnicaaGreatDoorW.PrintWords Go.Proofs.YtnoibcdojfnicaaGreatDoorW.PrintMore Go.Proofs.YtnoibcdojfnicaaGreatDoorW.PrintLast
open Go.Proofs.YtnoibcdojfnicaaGreatDoor.PSh (dn waste_down)
theorem samples_ok {s : ByteArray} {c b : Int} (h : getOk s c b = true) : ((samples s c b).length = 1 ∨ (samples s c b).length = 2) ∧ ∀ xs ∈ samples s c b, xs.length ≤ 4096 ∧ PSh.allS xs = true := by
 unfold getOk at h
 rw [Bool.and_eq_true, decide_eq_true_iff] at h
 obtain ⟨hf, _, hs⟩ := h
 have hi : s.size / (b / 8).toNat ≤ 4096 := Nat.le_trans (Nat.div_le_self _ _) hs
 obtain ⟨i, hie⟩ : ∃ i, i = s.size / (b / 8).toNat := ⟨_, rfl⟩
 rw [← hie] at hi
 have hin : ∀ (f : Nat → Int) (l : List Nat), (∀ j, -32768 ≤ f j ∧ f j ≤ 32767) → PSh.allS (l.map f) = true := fun f l hf => by
  unfold PSh.allS
  rw [List.all_eq_true]
  intro x hx
  obtain ⟨j, _, rfl⟩ := List.mem_map.1 hx
  have := hf j
  exact decide_eq_true (by omega)
 unfold samples chans
 rw [← hie]
 split
 ·refine ⟨Or.inl rfl, fun xs hx => ?_⟩
  obtain rfl := List.mem_singleton.1 hx
  exact ⟨by rw [List.length_map, List.length_range]; exact hi, hin _ _ (fun j => smp_in _ _ _)⟩
 ·refine ⟨Or.inr rfl, fun xs hx => ?_⟩
  simp only [List.mem_cons, List.not_mem_nil, or_false] at hx
  rcases hx with rfl | rfl
  ·exact ⟨by rw [List.length_map, List.length_range]; omega, hin _ _ (fun j => smp_in _ _ _)⟩
  ·exact ⟨by rw [List.length_map, List.length_range]; omega, hin _ _ (fun j => smp_in _ _ _)⟩
theorem const_is {s : ByteArray} {c b : Int} (h : getOk s c b = true) (hs : s.size ≠ 0) : (∃ r, segment_sound_constant.f s c b = some r) ∧ segment_sound_frame.f s c b = some (fs c b) ∧ (∃ m, segment_sound_many.f s c b = some m) ∧ 1 ≤ fs c b ∧ fs c b ≤ 4 ∧ fs c b ≤ (s.size : Int) := by
 unfold getOk at h
 rw [Bool.and_eq_true, decide_eq_true_iff] at h
 obtain ⟨hf, hm, hz⟩ := h
 obtain ⟨h1, h2, h3⟩ := frame_eq hf
 obtain ⟨g, hg⟩ : ∃ g, g = fs c b := ⟨_, rfl⟩
 rw [← hg] at h1 h2 h3 hm ⊢
 have hle : g ≤ (s.size : Int) := by
  apply Classical.byContradiction
  intro hn
  rw [Int.emod_eq_of_lt (by omega) (by omega)] at hm
  omega
 have hfr : segment_sound_frame.f s c b = some g := by unfold segment_sound_frame.f; rw [h1]; rfl
 have hq0 : 0 ≤ (s.size : Int) / g := Int.ediv_nonneg (by omega) (by omega)
 have hq1 : (s.size : Int) / g ≤ s.size := Int.ediv_le_self _ (by omega)
 have hmy : segment_sound_many.f s c b = some ((s.size : Int) / g) := by
  unfold segment_sound_many.f
  rw [hfr]
  simp only [Option.bind_some]
  rw [if_neg (by omega), Num.w64 (by omega) (by omega)]
 refine ⟨?_, hfr, ⟨_, hmy⟩, h2, h3, hle⟩
 unfold segment_sound_constant.f
 rw [hfr]
 simp only [Option.bind_some]
 rw [if_pos (by omega), if_pos hle, hmy]
 simp only [Option.bind_some]
 have hrep : ∃ t, strings_Repeat.f (s.extract 0 g.toNat) ((s.size : Int) / g) = some t := by
  unfold strings_Repeat.f
  have hx : (s.extract 0 g.toNat).size ≤ 4 := by rw [ByteArray.size_extract]; omega
  have hq2 : ((s.size : Int) / g).toNat ≤ 4096 := by omega
  have := Nat.mul_le_mul hx hq2
  rw [if_pos ⟨hq0, by omega, by omega⟩]
  exact ⟨_, rfl⟩
 obtain ⟨t, ht⟩ := hrep
 rw [ht]
 exact ⟨_, rfl⟩
def Layers (s : ByteArray) (c b : Int) (t : ByteArray) : Prop :=
 ∃ n : Nat, n ≤ 15 ∧ (∀ xs ∈ samples s c b, shift_Down.f xs n = some (xs.map (dn n), 0)) ∧ ∃ body, body.size ≤ 4096 ∧ t.size = body.size + 9 ∧ bt t 1 = n ∧ t.extract 5 (t.size - 4) = body ∧ residual_Put.f (allL (turnO (downs n (samples s c b)) (-1)).1) = some (body, 0) ∧ badL (turnO (downs n (samples s c b)) (-1)).2 (turnO (downs n (samples s c b)) (-1)).1 = 0
theorem put_cases (k : Nat) (hk : 20000 ≤ k) (s : ByteArray) (c b : Int) (hs : s.size ≤ 140737488351232) :
  segment_Put.f k s c b = some (⟨#[]⟩, 2200) ∨ (∃ t, segment_Put.f k s c b = some (t, 0) ∧ 9 ≤ t.size ∧ bt t 0 ≠ 1) ∨ (getOk s c b = true ∧ ∃ t, segment_Put.f k s c b = some (t, 0) ∧ bt t 0 = 1 ∧ Layers s c b t) := by
 have hg : pcm_Get.f k s c b = some (if getOk s c b = true then (samples s c b, 0) else ([], 1900)) := by
  rw [show k = (k - 4200) + 4200 by omega]; exact get_eq _ s c b
 obtain ⟨m, hm, rfl⟩ : ∃ m, 19999 ≤ m ∧ k = m + 1 := ⟨k - 1, by omega, by omega⟩
 have bad : segment_Put.j0 (m + 1) s true c b = some (⟨#[]⟩, 2200) := by simp only [segment_Put.j0]; rfl
 unfold segment_Put.f
 rw [hg]
 by_cases hok : getOk s c b = true
 ·rw [if_pos hok]
  simp only [Option.bind_some]
  rw [if_pos trivial]
  by_cases hz : s.toList = ([] : List UInt8)
  ·rw [if_pos hz, bad]
   exact Or.inl rfl
  ·rw [if_neg hz]
   have hz2 : s.size ≠ 0 := fun h => hz ((Bytes.nil_iff s).2 h)
   obtain ⟨⟨cr, hcr⟩, hfr, ⟨my, hmy⟩, f1, f4, fle⟩ := const_is hok hz2
   have hfm : pcm_Frame.f c b = some (fs c b) := by
    have := hfr
    unfold segment_sound_frame.f at this
    obtain ⟨x, hx, e⟩ := Option.bind_eq_some_iff.1 this
    rw [hx]
    exact e
   rw [hfm]
   simp only [Option.bind_some]
   have hs4 : s.size ≤ 4096 := by
    unfold getOk at hok
    rw [Bool.and_eq_true, decide_eq_true_iff] at hok
    exact hok.2.2
   cases hd : decide ((s.size : Int) > wrap64 (64 * fs c b))
   ·simp only [segment_Put.j0]
    rw [if_neg (by decide), hcr]
    simp only [Option.bind_some]
    cases cr
    ·rw [if_neg (by decide)]
     obtain ⟨h12, hall⟩ := samples_ok hok
     obtain ⟨n, n15, hwn, hdn⟩ := waste_down (fun xs hx => (hall xs hx).2)
     have hsd : ∀ xs ∈ samples s c b, shift_Down.f xs n = some (xs.map (dn n), 0) := fun xs hx => by
      unfold shift_Down.f
      rw [if_pos (by have := (hall xs hx).1; omega), hdn xs hx]
     have hwf : segment_wasted.f (samples s c b) = some (n : Int) := by
      unfold segment_wasted.f
      rw [if_pos ⟨by omega, by rw [List.all_eq_true]; intro xs hx; exact decide_eq_true (by have := (hall xs hx).1; omega)⟩, hwn]
     have hcd : segment_sound_coded.f m s c b = codedEnd n (turnO (downs n (samples s c b)) (-1)).1 (turnO (downs n (samples s c b)) (-1)).2 := by
      unfold segment_sound_coded.f
      rw [show pcm_Get.f m s c b = some (samples s c b, 0) by rw [show m = (m - 4200) + 4200 by omega, get_eq, if_pos hok]]
      simp only [Option.bind_some]
      rw [hwf]
      simp only [Option.bind_some]
      exact coded_l0 m n (samples s c b) h12 hsd (fun xs hx => (hall xs hx).1) (by omega)
     rw [hcd]
     unfold codedEnd
     obtain ⟨l, hl⟩ : ∃ l, l = (turnO (downs n (samples s c b)) (-1)).1 := ⟨_, rfl⟩
     obtain ⟨e, he⟩ : ∃ e, e = (turnO (downs n (samples s c b)) (-1)).2 := ⟨_, rfl⟩
     have hl2 : l.length ≤ 2 := by rw [hl]; exact (turnO_len _ _).1
     have hal : (allL l).length ≤ 17592186044416 := by
      rcases l with _ | ⟨p, _ | ⟨q, _ | ⟨r, t⟩⟩⟩
      ·simp [allL]
      ·have := (ln_in p).1; simp [allL]; omega
      ·have := (ln_in p).1; have := (ln_in q).1; simp [allL]; omega
      ·simp at hl2
     obtain ⟨r, hr⟩ : ∃ r, residual_Put.f (allL l) = some r := ⟨_, by unfold residual_Put.f; rw [if_pos hal]⟩
     obtain ⟨m2, hm2, rfl⟩ : ∃ m2, 19000 ≤ m2 ∧ m = m2 + 1 := ⟨m - 1, by omega, by omega⟩
     have raw : segment_Put.j1 (m2 + 1) s r.1 n false s c b = (segment_told.f m2 0 0 my s).bind fun t => some (t, 0) := by
      simp only [segment_Put.j1]
      rw [if_neg (by decide), hmy]
      rfl
     have rawt : ∃ t, segment_Put.j1 (m2 + 1) s r.1 n false s c b = some (t, 0) ∧ 9 ≤ t.size ∧ bt t 0 ≠ 1 := by
      obtain ⟨t, ht, hsz, h0, _, _⟩ := told_is (m2 - 8) 0 0 my s (by omega)
      rw [show m2 - 8 + 8 = m2 by omega] at ht
      rw [raw, ht]
      exact ⟨t, rfl, by omega, by rw [h0]; decide⟩
     rw [← hl, ← he, hr]
     simp only [Option.bind_some]
     by_cases hbd : badL e l = 0
     ·rw [if_pos hbd]
      simp only [Option.bind_some]
      by_cases hr0 : (r.2 == 0) = true
      ·rw [if_pos hr0]
       cases hlt : decide ((r.1.size : Int) < (s.size : Int))
       ·obtain ⟨t, h1, h2⟩ := rawt
        exact Or.inr (Or.inl ⟨t, h1, h2⟩)
       ·have hlt2 := of_decide_eq_true hlt
        obtain ⟨t, ht, hsz, t0, t1, t5⟩ := told_is (m2 - 8) 1 n my r.1 (by omega)
        rw [show m2 - 8 + 8 = m2 by omega] at ht
        refine Or.inr (Or.inr ⟨hok, t, ?_, by rw [t0]; decide, n, n15, hsd, r.1, by omega, hsz, ?_, t5, ?_, ?_⟩)
        ·simp only [segment_Put.j1]
         rw [if_pos trivial, hmy]
         simp only [Option.bind_some]
         rw [ht]
         rfl
        ·rw [t1]; omega
        ·rw [← hl, hr]
         have : r.2 = 0 := by simpa using hr0
         rw [← this]
        ·rw [← hl, ← he]; exact hbd
      ·rw [if_neg hr0]
       obtain ⟨t, h1, h2⟩ := rawt
       exact Or.inr (Or.inl ⟨t, h1, h2⟩)
     ·rw [if_neg hbd]
      simp only [Option.bind_some]
      rw [if_neg (by decide)]
      obtain ⟨t, h1, h2⟩ := rawt
      exact Or.inr (Or.inl ⟨t, h1, h2⟩)
    ·rw [if_pos rfl, hmy]
     simp only [Option.bind_some]
     rw [hfr]
     simp only [Option.bind_some]
     rw [if_pos (by omega), if_pos fle]
     obtain ⟨t, ht, hsz, h0, _, _⟩ := told_is (m - 8) 2 0 my (s.extract 0 (fs c b).toNat) (by rw [ByteArray.size_extract]; omega)
     rw [show m - 8 + 8 = m by omega] at ht
     rw [ht]
     exact Or.inr (Or.inl ⟨t, rfl, by omega, by rw [h0]; decide⟩)
   ·rw [bad]
    exact Or.inl rfl
 ·rw [if_neg hok]
  simp only [Option.bind_some]
  rw [if_neg (by decide), bad]
  exact Or.inl rfl
end Go.Proofs.YtnoibcdojfnicaaGreatDoor.PG
namespace Go.Proofs.YtnoibcdojfnicaaGreatDoor.Modn
open Go.Proofs.YtnoibcdojfnicaaGreatDoorW.Short
open Bool renaming true → Y, false → J
open Go Go.RowKit Go.Proofs.YtnoibcdojfnicaaGreatDoorW.PrintWords Go.Proofs.YtnoibcdojfnicaaGreatDoorW.PrintMore Go.Proofs.YtnoibcdojfnicaaGreatDoorW.PrintLast
structure Mod (g B : Nat) (W W' : World) : Prop where
 os : W'.os = W.os
 tape : W'.tape = W.tape
 output : W'.output = W.output
 size : W.heap.size ≤ W'.heap.size
 block : ∀ k, k < B → k ≠ g → W'.heap[k]? = W.heap[k]?
theorem Mod.of {g B : Nat} {W W' : World} (h : Below W.heap.size W W') (hB : B ≤ W.heap.size) : Mod g B W W' := ⟨h.os, h.tape, h.output, h.size, fun k hk _ => h.block k (by omega)⟩
theorem Mod.of2 {g B : Nat} {W W' : World} (h : Below B W W') : Mod g B W W' := ⟨h.os, h.tape, h.output, h.size, fun k hk _ => h.block k hk⟩
theorem Mod.trans {g B : Nat} {a b c : World} (h : Mod g B a b) (k : Mod g B b c) : Mod g B a c :=
 ⟨k.os.trans h.os, k.tape.trans h.tape, k.output.trans h.output, Nat.le_trans h.size k.size, fun i hi hg => (k.block i hi hg).trans (h.block i hi hg)⟩
theorem Mod.below {g B : Nat} {w W W' : World} (h : Mod g B W W') (hb : Below w.heap.size w W) (hg : w.heap.size ≤ g) (hB : w.heap.size ≤ B) : Below w.heap.size w W' :=
 ⟨h.os.trans hb.os, h.tape.trans hb.tape, h.output.trans hb.output, Nat.le_trans hb.size h.size, fun k hk => (h.block k (by omega) (by omega)).trans (hb.block k hk)⟩
theorem Mod.row (g B : Nat) (W : World) (cs : Array Value) : Mod g B W (W.setRow g cs) := ⟨rfl, rfl, rfl, by simp [World.setRow], fun k _ hg => setRow_other W g k cs hg⟩
theorem Mod.cell (g B i : Nat) (W : World) (u : Value) : Mod g B W (W.setCell ⟨g, i, none⟩ u) := by
 have h := below_set (g := g) (j := i) (v := u) (Below.refl W.heap.size W)
 refine ⟨?_, ?_, ?_, ?_, fun k _ hk => Below.heap_setCell W _ u k hk⟩
 ·simp [World.setCell]
 ·simp [World.setCell]
 ·simp [World.setCell]
 ·simp
theorem Mod.cells (g B : Nat) : ∀ (vs : List Value) (o : Nat) (W : World), Mod g B W (W.setCells g o vs)
 | [], _, W => ⟨rfl, rfl, rfl, Nat.le_refl _, fun _ _ _ => rfl⟩
 | v :: r, o, W => by rw [World.setCells]; exact (Mod.cell g B o W v).trans (Mod.cells g B r (o + 1) _)
end Go.Proofs.YtnoibcdojfnicaaGreatDoor.Modn
namespace Go.Proofs.YtnoibcdojfnicaaGreatDoor.PG
open Go.Proofs.YtnoibcdojfnicaaGreatDoorW.Short
open Bool renaming true → Y, false → J
open Go Go.RowKit Go.Proofs.YtnoibcdojfnicaaGreatDoorW.PrintWords Go.Proofs.YtnoibcdojfnicaaGreatDoorW.PrintMore Go.Proofs.YtnoibcdojfnicaaGreatDoorW.PrintLast
open Go.Proofs.YtnoibcdojfnicaaGreatDoor.Modn
def rG12T : Bool × List (List Nat × List Nat) := (true, [([], []), ([0], [0]), ([1], [1]), ([], []), ([], []), ([], []), ([5], [5]), ([6], [6]), ([], []), ([8], [8]), ([9], [9]), ([2, 3, 4, 7, 10, 2], [2, 3, 4, 7, 10]), ([11, 11, 0, 1, 2, 3, 4, 5, 6, 7, 8, 9, 10, 11], [11])])
def rG12B : List Nat := [0, 1, 3, 0, 0, 0, 32, 96, 0, 256, 768, 2047, 4095]
theorem rG12_tab : rtab .any (opsOf Tryz.f43 12) = rG12T := by kernel_rfl
theorem rG12_bits : waitsOk rG12T.2 rG12B = true := by kernel_rfl
theorem goesV_ {P : Program} {ops : Array Oper} {Q : Exit → Act → World → Prop} {oi : Oper} {N : Option Tmp} {a : Act} {w : World} {K : Act → World → Prop} {f : FuncId} {fn : Func} {op0 : Operand} {as_ : Array Operand} {ts : Array TypeId} (hf : P.funcs[f]? = some fn) (hname : (fn.name == "runtime.NumGoroutine") = false) (hb : fn.body.isSome = true) (args : Array Value)
  (hw : Region.wanted oi (yielded ops a.tmps) = true) (hN : oi.dst = N) (hop : oi.op = .call { callee := .value op0, args := as_, argTypes := ts }) (hv : a.eval op0 = .func (Fn.func f) #[] #[]) (hargs : as_.map a.eval = args)
  (h : Calls P f args w fun e w' => ∃ v, e = .returned v ∧ K (a.put N v) w') : if Region.wanted oi (yielded ops a.tmps) = true then Oper.wp P oi a w K Q else K (a.put N undef) w := by
 refine call_ f args hw hN ?_ h
 have he := enters_ hf hname hb args w
 unfold execOp
 simp [hop, resolve, Deferred.ofValue, invoke, hv, hargs, he]
abbrev FRT := ByteArray → Int → Int → Int → Int → Option ByteArray
def FrOk (FR : FRT) : Prop := ∀ (own : ByteArray) (c b by_ many : Int) (r : ByteArray) (w : World), Extra.Laid w → FR own c b by_ many = some r → Calls Tryz.prog 143 #[.string own, .agg #[.int .i64 c, .int .i64 b], .int .i64 by_, .int .i64 many] w fun e w' => e = .returned (.string r) ∧ Below w.heap.size w w'
theorem frNone : FrOk (fun _ _ _ _ _ => none) := fun _ _ _ _ _ _ _ _ h => absurd h (by simp)
def opF (kd : Int) : FuncId := if kd = 1 then 143 else if kd = 2 then 144 else 145
def openF (FR : FRT) (kd : Int) (own : ByteArray) (c b by_ many : Int) : Option ByteArray := if kd = 1 then FR own c b by_ many else if kd = 2 then strings_Repeat.f own many else some own
theorem opens_c (kd : Int) (w : World) : Calls Tryz.prog 107 #[.int .u8 kd] w fun e w' => e = .returned (.func (Fn.func (opF kd)) #[] #[]) ∧ w' = w := by
 by_cases h1 : kd = 1
 ·subst h1
  go_enter Tryz.func107, Tryz.ntmps107
  go_wp2_with fail
  go_ret
  exact ⟨rfl, rfl⟩
 ·have e1 : (kd == 1) = false := beq_eq_false_iff_ne.2 h1
  by_cases h2 : kd = 2
  ·subst h2
   go_enter Tryz.func107, Tryz.ntmps107
   go_wp2_with fail
   go_ret
   exact ⟨rfl, rfl⟩
  ·have e2 : (kd == 2) = false := beq_eq_false_iff_ne.2 h2
   have e3 : opF kd = 145 := by unfold opF; rw [if_neg h1, if_neg h2]
   rw [e3]
   go_enter Tryz.func107, Tryz.ntmps107
   go_wp2_with fail
   go_ret
   exact ⟨rfl, rfl⟩
theorem open1_c (own : ByteArray) (c b by_ many : Int) (r : ByteArray) (w : World) (h : strings_Repeat.f own many = some r) : Calls Tryz.prog 144 #[.string own, .agg #[.int .i64 c, .int .i64 b], .int .i64 by_, .int .i64 many] w fun e w' => e = .returned (.string r) ∧ Below w.heap.size w w' := by
 have RC := Lib.hid (fun w => strings_Repeat.calls own many r w h)
 clear h
 go_enter Tryz.func144, Tryz.ntmps144
 go_wp2_with fail
 refine (RC.out _).mono ?_
 rintro e w3 ⟨rfl, hb⟩
 have H3 := Lib.hid (below_step (below_alloc (Below.refl w.heap.size w) (.cells #[.int .i64 c, .int .i64 b] 69)) hb)
 clear hb
 go_wp2_with fail
 go_ret
 exact ⟨rfl, H3.out⟩
theorem open2_c (own : ByteArray) (c b by_ many : Int) (w : World) : Calls Tryz.prog 145 #[.string own, .agg #[.int .i64 c, .int .i64 b], .int .i64 by_, .int .i64 many] w fun e w' => e = .returned (.string own) ∧ Below w.heap.size w w' := by
 go_enter Tryz.func145, Tryz.ntmps145
 go_wp2_with fail
 go_ret
 exact ⟨rfl, below_alloc (Below.refl w.heap.size w) (.cells #[.int .i64 c, .int .i64 b] 69)⟩
theorem open_c {FR : FRT} (hFR : FrOk FR) (kd : Int) (own : ByteArray) (c b by_ many : Int) (r : ByteArray) (w : World) (hL : Extra.Laid w) (h : openF FR kd own c b by_ many = some r) : Calls Tryz.prog (opF kd) #[.string own, .agg #[.int .i64 c, .int .i64 b], .int .i64 by_, .int .i64 many] w fun e w' => e = .returned (.string r) ∧ Below w.heap.size w w' := by
 unfold openF at h
 unfold opF
 by_cases h1 : kd = 1
 ·rw [if_pos h1] at h ⊢; exact hFR _ _ _ _ _ _ _ hL h
 ·rw [if_neg h1] at h ⊢
  by_cases h2 : kd = 2
  ·rw [if_pos h2] at h ⊢; exact open1_c own c b by_ many r w h
  ·rw [if_neg h2] at h ⊢
   obtain rfl := Option.some.inj h
   exact open2_c own c b by_ many w
theorem opF_fn (kd : Int) : ∃ fn, Tryz.prog.funcs[opF kd]? = some fn ∧ (fn.name == "runtime.NumGoroutine") = false ∧ fn.body.isSome = true := by
 unfold opF
 split
 ·exact ⟨_, Tryz.func143, by kernel_rfl, rfl⟩
 ·split
  ·exact ⟨_, Tryz.func144, by kernel_rfl, rfl⟩
  ·exact ⟨_, Tryz.func145, by kernel_rfl, rfl⟩
theorem tl_inj {a b : ByteArray} (h : a.toList = b.toList) : a = b := by
 rw [ByteArray.toList_eq, ByteArray.toList_eq] at h
 exact ByteArray.ext (Array.toList_inj.1 h)
theorem fm_cells {w : World} {g : Nat} {c b : Int} {T : TypeId} {fr : Nat × Nat} (h : w.heap[g]? = some (.cells #[.int .i64 c, .int .i64 b] T fr)) : w.cell? ⟨g, 0, none⟩ = some (.int .i64 c) ∧ w.cell? ⟨g, 1, none⟩ = some (.int .i64 b) :=
 ⟨(cell_of_row w g 0 _ T fr h).trans rfl, (cell_of_row w g 1 _ T fr h).trans rfl⟩
def segGet2 (k : Nat) (FR : FRT) (s own : ByteArray) (c b : Int) : Option (ByteArray × Int) := (openF FR (bt s 0) own c b (bt s 1) (bt s 2)).bind fun d => (segment_Put.f k d c b).map fun r => if r.2 = 0 ∧ r.1 = s then (d, 0) else (⟨#[]⟩, 2200)
def segGet1 (k : Nat) (FR : FRT) (s own : ByteArray) (n c b : Int) : Option (ByteArray × Int) := (field_Get.f k (s.extract (s.size - 4) s.size)).bind fun q => (crc_Sum.f (s.extract 0 (s.size - 4))).bind fun cs => if q.1 = cs then (if n > 4096 then some (⟨#[]⟩, 2200) else if bt s 2 > 64 then some (⟨#[]⟩, 2200) else segGet2 k FR s own c b) else some (⟨#[]⟩, 2201)
def segGet (k : Nat) (FR : FRT) (s : ByteArray) (c b : Int) : Option (ByteArray × Int) := (pcm_May.f c b).bind fun m => if m = true then (if 9 ≤ s.size then (field_Get.f k (s.extract 3 5)).bind fun p => if 0 ≤ p.1 ∧ p.1 ≤ 140737488351232 then (if (s.size : Int) = 9 + p.1 then segGet1 k FR s (s.extract 5 (s.size - 4)) p.1 c b else some (⟨#[]⟩, 2200)) else none else some (⟨#[]⟩, 2200)) else some (⟨#[]⟩, 2200)
theorem segGet_c (k : Nat) {FR : FRT} (hFR : FrOk FR) (s : ByteArray) (c b : Int) (R : ByteArray × Int) (W : World) (hs : s.size ≤ 140737488351232) (hL : Extra.Laid W) (h : segGet k FR s c b = some R) : Calls Tryz.prog 43 #[.string s, .agg #[.int .i64 c, .int .i64 b]] W fun e w' => e = .returned (.tuple #[.string R.1, .int .i64 R.2]) ∧ Below W.heap.size W w' := by
 have HL := Lib.hid hL
 clear hL
 obtain ⟨m, hm, h⟩ := Option.bind_eq_some_iff.1 h
 have MC := Lib.hid (fun w => pcm_May.calls c b m w hm)
 clear hm
 have hu69 := Tryz.underlying69
 obtain ⟨g, hg⟩ : ∃ g, g = W.heap.size := ⟨_, rfl⟩
 have B2 := Lib.hid (blk_new W (.cells #[.int .i64 c, .int .i64 b] 69))
 have H2 := Lib.hid (below_alloc (Below.refl W.heap.size W) (.cells #[.int .i64 c, .int .i64 b] 69))
 rw [← hg] at B2
 obtain ⟨w2, hw2⟩ : ∃ w2, w2 = W.alloc (.cells #[.int .i64 c, .int .i64 b] 69) := ⟨_, rfl⟩
 rw [← hw2] at B2 H2
 obtain ⟨k0, k1⟩ := fm_cells B2.out
 have HW := Lib.hid hw2
 have HG := Lib.hid hg
 clear hw2 hg
 cases m
 ·obtain rfl := Option.some.inj h
  clear h
  go_enter Tryz.func43, Tryz.ntmps43
  go_wp2_with fail
  rw [← HW.out]
  simp only [← HG.out]
  go_wp2_with fail
  refine (MC.out _).mono ?_
  rintro e w3 ⟨rfl, hb⟩
  have B3 := Lib.hid (blk_below B2.out hb)
  have H3 := Lib.hid (below_step H2.out hb)
  clear hb B2 H2
  go_wp2_with fail
  go_ret2
  exact ⟨rfl, H3.out⟩
 ·rw [if_pos rfl] at h
  by_cases h9 : 9 ≤ s.size
  ·rw [if_pos h9] at h
   obtain ⟨⟨n, e1⟩, hp, h⟩ := Option.bind_eq_some_iff.1 h
   have F1 := Lib.hid (fun w => field_Get.calls k (s.extract 3 5) n e1 w hp)
   clear hp
   dsimp only at h
   by_cases hn : 0 ≤ n ∧ n ≤ 140737488351232
   ·rw [if_pos hn] at h
    obtain ⟨hn0, hn1⟩ := hn
    have c1 : decide ((s.size : Int) < 9) = false := decide_eq_false (by omega)
    have q1 : (5 : Int) ≤ (s.size : Int) := by omega
    have q1b : 5 ≤ s.size := by omega
    have u1 := Num.w64 (n := 9 + n) (by omega) (by omega)
    have v1 : IntKind.i64.wrap (9 + n) = 9 + n := (Num.wrap_eq _).trans u1
    by_cases he : (s.size : Int) = 9 + n
    ·rw [if_pos he] at h
     have c2 : ((s.size : Int) == 9 + n) = true := beq_iff_eq.2 he
     have c3 : ((s.size : Int) != 9 + n) = false := bne_eq_false_iff_eq.2 he
     have u2 := Num.w64 (n := 5 + n) (by omega) (by omega)
     have v2 : IntKind.i64.wrap (5 + n) = 5 + n := (Num.wrap_eq _).trans u2
     have u3 := Num.w64 (n := (s.size : Int) - 4) (by omega) (by omega)
     have v3 : IntKind.i64.wrap ((s.size : Int) - 4) = (s.size : Int) - 4 := (Num.wrap_eq _).trans u3
     have hne : (5 + n).toNat = s.size - 4 := by omega
     have hme : ((s.size : Int) - 4).toNat = s.size - 4 := by omega
     have q2 : (5 : Int) ≤ 5 + n := by omega
     have q3 : 5 + n ≤ (s.size : Int) := by omega
     have q4 : (0 : Int) ≤ (s.size : Int) - 4 := by omega
     have q5 : (s.size : Int) - 4 ≤ (s.size : Int) := by omega
     unfold segGet1 at h
     obtain ⟨⟨en, e2⟩, hp, h⟩ := Option.bind_eq_some_iff.1 h
     have F2 := Lib.hid (fun w => field_Get.calls k (s.extract (s.size - 4) s.size) en e2 w hp)
     clear hp
     obtain ⟨cs, hp, h⟩ := Option.bind_eq_some_iff.1 h
     have CS := Lib.hid (fun w => crc_Sum.calls (s.extract 0 (s.size - 4)) cs w hp)
     clear hp
     dsimp only at h
     have Hs := Lib.hid he
     clear he
     have Hh := Lib.hid h
     clear h
     go_enter Tryz.func43, Tryz.ntmps43
     go_wp2_with fail
     rw [← HW.out]
     simp only [← HG.out]
     go_wp2_with fail
     refine (MC.out _).mono ?_
     rintro e w3 ⟨rfl, hb⟩
     have B3 := Lib.hid (blk_below B2.out hb)
     have H3 := Lib.hid (below_step H2.out hb)
     clear hb B2 H2
     clear k0 k1
     go_wp2_with fail
     refine (F1.out _).mono ?_
     rintro e w4 ⟨rfl, hb⟩
     have B4 := Lib.hid (blk_below B3.out hb.below)
     have H4 := Lib.hid (below_step H3.out hb.below)
     clear hb B3 H3
     go_wp2_with fail
     refine (F2.out _).mono ?_
     rintro e w5 ⟨rfl, hb⟩
     have B5 := Lib.hid (blk_below B4.out hb.below)
     have H5 := Lib.hid (below_step H4.out hb.below)
     clear hb B4 H4
     go_wp2_with fail
     refine (CS.out _).mono ?_
     rintro e w6 ⟨rfl, hb⟩
     have B6 := Lib.hid (blk_below B5.out hb)
     have H6 := Lib.hid (below_step H5.out hb)
     clear hb B5 H5
     have l0 := eq_true (show 0 < s.size by omega)
     have l1 := eq_true (show 1 < s.size by omega)
     have l2 := eq_true (show 2 < s.size by omega)
     have i0 := eq_true (show (0 : Int) < (s.size : Int) by omega)
     have i1 := eq_true (show (1 : Int) < (s.size : Int) by omega)
     have i2 := eq_true (show (2 : Int) < (s.size : Int) by omega)
     have x0 : ∀ h : 0 < s.size, ((s[0]'h).toNat : Int) = bt s 0 := bt_at s 0
     have x1 : ∀ h : 1 < s.size, ((s[1]'h).toNat : Int) = bt s 1 := bt_at s 1
     have x2 : ∀ h : 2 < s.size, ((s[2]'h).toNat : Int) = bt s 2 := bt_at s 2
     by_cases hcs : en = cs
     ·have h := Hh.out
      rw [if_pos hcs] at h
      have c4 : (en != cs) = false := bne_eq_false_iff_eq.2 hcs
      by_cases h40 : n > 4096
      ·rw [if_pos h40] at h
       obtain rfl := Option.some.inj h
       have c5 : decide (n > 4096) = true := decide_eq_true h40
       go_wp2_with fail
       go_ret2
       exact ⟨rfl, H6.out⟩
      ·rw [if_neg h40] at h
       have c5 : decide (n > 4096) = false := decide_eq_false h40
       by_cases h64 : bt s 2 > 64
       ·rw [if_pos h64] at h
        obtain rfl := Option.some.inj h
        have c6 : decide (bt s 2 > 64) = true := decide_eq_true h64
        go_wp2_with fail
        go_ret2
        exact ⟨rfl, H6.out⟩
       ·rw [if_neg h64] at h
        have c6 : decide (bt s 2 > 64) = false := decide_eq_false h64
        unfold segGet2 at h
        obtain ⟨d, ho, h⟩ := Option.bind_eq_some_iff.1 h
        obtain ⟨⟨r1, r2⟩, hp, h⟩ := Option.map_eq_some_iff.1 h
        have OC := Lib.hid (fun w hL => open_c hFR (bt s 0) (s.extract 5 (s.size - 4)) c b (bt s 1) (bt s 2) d w hL ho)
        have PC := Lib.hid (fun w hL => segment_Put.calls k d c b r1 r2 w hp hL)
        obtain ⟨fn, f1, f2, f3⟩ := opF_fn (bt s 0)
        obtain ⟨kd, hkd⟩ : ∃ kd, kd = bt s 0 := ⟨_, rfl⟩
        obtain ⟨z1, hz1⟩ : ∃ z, z = bt s 1 := ⟨_, rfl⟩
        obtain ⟨z2, hz2⟩ : ∃ z, z = bt s 2 := ⟨_, rfl⟩
        have rz1 := bt_range s 1
        have rz2 := bt_range s 2
        rw [← hz1] at rz1
        rw [← hz2] at rz2
        have y1 : IntKind.i64.wrap z1 = z1 := (Num.wrap_eq _).trans (Num.w64 (by omega) (by omega))
        have y2 : IntKind.i64.wrap z2 = z2 := (Num.wrap_eq _).trans (Num.w64 (by omega) (by omega))
        have y3 := Num.w64 (n := z1) (by omega) (by omega)
        have y4 := Num.w64 (n := z2) (by omega) (by omega)
        rw [← hkd] at x0 OC f1
        rw [← hz1] at x1 OC
        rw [← hz2] at x2 OC c6
        clear hkd hz1 hz2 h64 h40 ho hp Hh
        go_wp2_with fail
        have B7 := Lib.hid (blk_drew B6.out)
        have H7 := Lib.hid (below_drew1 H6.out)
        refine start_ (n := 13) (S := fun w' => w'.heap[g]? = some (.cells #[.int .i64 c, .int .i64 b] 69 (0, 0))) (ds := []) #[J,J,J,J,J,J,J,J,J,J,J,J,J] kr rfl rfl (blk_drew B6.out) (fun hHeld => ?_)
        refine with_tabW rG12_tab rG12_bits (fun HT_ HW_ => ?_)
        generalize w6.drew = w7 at B7 H7 hHeld ⊢
        refine pu_ 0 61 (z 13 1) HT_ ?_
        refine pu_ 1 62 (z 13 3) HT_ ?_
        refine pu_ 3 64 (z 13 11) HT_ ?_
        refine ta_ 4 65 (z 13 27) HT_ HW_ hHeld rfl b65_ ?_
        refine pu_ 5 66 (z 13 59) HT_ ?_
        refine pu_ 6 67 (z 13 123) HT_ ?_
        refine pu_ 7 68 (z 13 251) HT_ ?_
        refine pu_ 8 69 (z 13 507) HT_ ?_
        refine pu_ 9 70 (z 13 1019) HT_ ?_
        refine pu_ 10 71 (z 13 2043) HT_ ?_
        refine one_ (i := 2) (N := some 63) #[Y,Y,Y,Y,Y,Y,Y,Y,Y,Y,Y,J,J] rfl rfl (one_of HT_.out kr) (by decide) (fun K hK => ?_)
        refine goes_ Tryz.func107 kr rfl #[.int .u8 kd] (by rfl) rfl rfl b66_ ?_
        refine (opens_c kd _).mono ?_
        rintro e w8 ⟨rfl, hw⟩
        refine ⟨_, rfl, ?_⟩
        have hw := hw.symm
        subst hw
        refine hK.out _ _ (B7.out) (fun hHeld => ?_)
        clear hK K
        refine norm_ (a' := ?_) ?_ ?_
        rotate_left
        ·show Act.put _ (some 63) _ = _
         exact pT
        refine one_ (i := 11) (N := some 72) #[Y,Y,Y,Y,Y,Y,Y,Y,Y,Y,Y,Y,J] rfl rfl (one_of HT_.out kr) (by decide) (fun K hK => ?_)
        refine goesV_ f1 f2 f3 #[.string (s.extract 5 (s.size - 4)), .agg #[.int .i64 c, .int .i64 b], .int .i64 z1, .int .i64 z2] (by rfl) rfl rfl (by rfl) b66_ ?_
        refine (OC.out _ (HL.out.below_ H7.out)).mono ?_
        rintro e w8 ⟨rfl, hb⟩
        refine ⟨_, rfl, ?_⟩
        have B8 := Lib.hid (blk_below B7.out hb)
        have H8 := Lib.hid (below_step H7.out hb)
        clear hb B7 H7
        refine hK.out _ _ (B8.out) (fun hHeld => ?_)
        clear hK K
        refine norm_ (a' := ?_) ?_ ?_
        rotate_left
        ·show Act.put _ (some 72) _ = _
         exact pT
        refine pu_ 12 12 (z 13 8191) HT_ ?_
        refine done_ (done_of HT_.out kr) ?_
        clear hHeld
        obtain ⟨k0, k1⟩ := fm_cells B8.out
        go_wp2_with fail
        refine (PC.out _ (HL.out.below_ H8.out)).mono ?_
        rintro e w9 ⟨rfl, hb⟩
        have B9 := Lib.hid (blk_below B8.out hb)
        have H9 := Lib.hid (below_step H8.out hb)
        clear hb B8 H8
        clear k0 k1
        by_cases hr : r2 = 0
        ·subst hr
         by_cases hq : r1 = s
         ·rw [if_pos ⟨rfl, hq⟩] at h
          subst h
          have c7 : (r1.toList == s.toList) = true := beq_iff_eq.2 (by rw [hq])
          have c8 : (r1.toList != s.toList) = false := bne_eq_false_iff_eq.2 (by rw [hq])
          go_wp2_with fail
          go_ret2
          exact ⟨rfl, H9.out⟩
         ·rw [if_neg (fun hh => hq hh.2)] at h
          subst h
          have c7 : (r1.toList == s.toList) = false := beq_eq_false_iff_ne.2 (fun hh => hq (tl_inj hh))
          have c8 : (r1.toList != s.toList) = true := bne_iff_ne.2 (fun hh => hq (tl_inj hh))
          go_wp2_with fail
          go_ret2
          exact ⟨rfl, H9.out⟩
        ·rw [if_neg (fun hh => hr hh.1)] at h
         subst h
         have c7 : (r2 != 0) = true := bne_iff_ne.2 hr
         go_wp2_with fail
         go_ret2
         exact ⟨rfl, H9.out⟩
     ·have h := Hh.out
      rw [if_neg hcs] at h
      obtain rfl := Option.some.inj h
      have c4 : (en != cs) = true := bne_iff_ne.2 hcs
      go_wp2_with fail
      go_ret2
      exact ⟨rfl, H6.out⟩
    ·rw [if_neg he] at h
     obtain rfl := Option.some.inj h
     have c2 : ((s.size : Int) == 9 + n) = false := beq_eq_false_iff_ne.2 he
     have c3 : ((s.size : Int) != 9 + n) = true := bne_iff_ne.2 he
     clear h
     go_enter Tryz.func43, Tryz.ntmps43
     go_wp2_with fail
     rw [← HW.out]
     simp only [← HG.out]
     go_wp2_with fail
     refine (MC.out _).mono ?_
     rintro e w3 ⟨rfl, hb⟩
     have B3 := Lib.hid (blk_below B2.out hb)
     have H3 := Lib.hid (below_step H2.out hb)
     clear hb B2 H2
     clear k0 k1
     go_wp2_with fail
     refine (F1.out _).mono ?_
     rintro e w4 ⟨rfl, hb⟩
     have B4 := Lib.hid (blk_below B3.out hb.below)
     have H4 := Lib.hid (below_step H3.out hb.below)
     clear hb B3 H3
     go_wp2_with fail
     go_ret2
     exact ⟨rfl, H4.out⟩
   ·rw [if_neg hn] at h
    exact absurd h (by simp)
  ·rw [if_neg h9] at h
   obtain rfl := Option.some.inj h
   have c1 : decide ((s.size : Int) < 9) = true := decide_eq_true (by omega)
   clear h
   go_enter Tryz.func43, Tryz.ntmps43
   go_wp2_with fail
   rw [← HW.out]
   simp only [← HG.out]
   go_wp2_with fail
   refine (MC.out _).mono ?_
   rintro e w3 ⟨rfl, hb⟩
   have B3 := Lib.hid (blk_below B2.out hb)
   have H3 := Lib.hid (below_step H2.out hb)
   clear hb B2 H2
   go_wp2_with fail
   go_ret2
   exact ⟨rfl, H3.out⟩
end Go.Proofs.YtnoibcdojfnicaaGreatDoor.PG
