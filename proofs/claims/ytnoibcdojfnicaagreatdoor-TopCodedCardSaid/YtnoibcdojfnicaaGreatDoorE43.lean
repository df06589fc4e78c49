/- A part of the proof of a law of descanttop: this session's own texts and printed texts, shortened and joined. -/
import Derived.Test.YtnoibcdojfnicaaGreatDoorE42
set_option linter.unusedVariables false
set_option linter.unusedSimpArgs false
set_option maxRecDepth 100000
set_option maxHeartbeats 16000000
namespace Go.Proofs.YtnoibcdojfnicaaGreatDoor.PG
open Go.Proofs.YtnoibcdojfnicaaGreatDoorW.Short
open Bool renaming true → Y, false → J
open Go Go.RowKit Go.Proofs.YtnoibcdojfnicaaGreatDoorW.PrintWords Go.Proofs.YtnoibcdojfnicaaGreatDoorW.PrintMore Go.Proofs.YtnoibcdojfnicaaGreatDoorW.PrintLast
open Go.Proofs.YtnoibcdojfnicaaGreatDoor.PSh (dn waste_down)
theorem num_is (x : Int) : descantlaw0_Num.f x = some x := rfl
theorem top_end (k : Nat) (t body : ByteArray) (l : List (List Int)) (hl : l.length ≤ 2) (h0 : ∀ p ∈ l, (ln p).2 = 0) (hs : t.size = body.size + 9) (hz : t.size ≤ 281474976710656) (hx : t.extract 5 (t.size - 4) = body) (hr : residual_Put.f (allL l) = some (body, 0)) : descanttop_TopCoded.l1 (k + 3) t 0 l 0 [] 0 = some true := by
 have w1 : wrap64 (0 + 1) = 1 := by decide +kernel
 have w2 : wrap64 (1 + 1) = 2 := by decide +kernel
 have w4 : wrap64 ((t.size : Int) - 4) = ((t.size - 4 : Nat) : Int) := by rw [Num.w64 (by omega) (by omega)]; omega
 have hcs : crc_Sum.f (t.extract 0 (t.size - 4)) = some (PTp.crcF (t.extract 0 (t.size - 4))) := by unfold crc_Sum.f; rw [if_pos (by rw [ByteArray.size_extract]; omega)]
 have hcr : descantref1_Crc.f (t.extract 0 (t.size - 4)) = some (PTp.crcF (t.extract 0 (t.size - 4))) := by unfold descantref1_Crc.f; rw [if_pos (by rw [ByteArray.size_extract]; omega)]
 obtain ⟨u, hu⟩ : ∃ u : Nat, u = t.size - 4 := ⟨_, rfl⟩
 rw [← hu] at w4 hcs hcr hx
 have fin : ∀ (r : ByteArray × Int), r = (body, 0) → ((descantlaw0_Num.f 0).bind fun t408 => (if t408 = 0 then ((descantlaw0_Num.f 0).bind fun t409 => (if t409 = 0 then ((descantlaw0_Num.f r.2).bind fun t410 => (if t410 = 0 then (if 5 ≤ (wrap64 ((t.size : Int) - 4)) then (if (wrap64 ((t.size : Int) - 4)) ≤ (t.size : Int) then (if (t.extract 5 ((wrap64 ((t.size : Int) - 4)) : Int).toNat).toList = r.1.toList then (if 0 ≤ (wrap64 ((t.size : Int) - 4)) then ((crc_Sum.f (t.extract 0 ((wrap64 ((t.size : Int) - 4)) : Int).toNat)).bind fun t411 => ((descantref1_Crc.f (t.extract 0 ((wrap64 ((t.size : Int) - 4)) : Int).toNat)).bind fun t412 => (some (t411 == t412)))) else (none)) else (none)) else (none)) else (none)) else (none))) else (none))) else (none))) = some true := by
  rintro r rfl
  simp only [num_is, Option.bind_some]
  rw [w4]
  simp only [Int.toNat_natCast]
  rw [if_pos trivial, if_pos trivial, if_pos trivial, if_pos (by omega), if_pos (by omega), hx, if_pos rfl, if_pos (by omega), hcs]
  simp only [Option.bind_some]
  rw [hcr]
  simp only [Option.bind_some]
  rw [beq_self_eq_true]
 rcases l with _ | ⟨p, _ | ⟨q, _ | ⟨r, z⟩⟩⟩
 ·simp only [descanttop_TopCoded.l1]
  rw [if_neg (by simp)]
  rw [show allL [] = [] from rfl] at hr
  rw [hr]
  simp only [Option.bind_some]
  exact fin _ rfl
 ·have hp := (ln_in p).1
  have ep := h0 p (by simp)
  simp only [descanttop_TopCoded.l1]
  rw [if_pos (by simp), if_pos (by omega), show rd_L1 [p] 0 = p from rfl, put_ln]
  simp only [Option.bind_some]
  rw [ep, num_is]
  simp only [Option.bind_some]
  rw [if_pos trivial, if_pos (by simp; omega), w1, if_neg (by simp), List.nil_append]
  rw [show allL [p] = (ln p).1 by simp [allL]] at hr
  rw [hr]
  simp only [Option.bind_some]
  exact fin _ rfl
 ·have hp := (ln_in p).1
  have hq := (ln_in q).1
  have ep := h0 p (by simp)
  have eq := h0 q (by simp)
  simp only [descanttop_TopCoded.l1]
  rw [if_pos (by simp), if_pos (by omega), show rd_L1 [p, q] 0 = p from rfl, put_ln]
  simp only [Option.bind_some]
  rw [ep, num_is]
  simp only [Option.bind_some]
  rw [if_pos trivial, if_pos (by simp; omega), w1, if_pos (by simp), if_pos (by omega), show rd_L1 [p, q] 1 = q from rfl, put_ln]
  simp only [Option.bind_some]
  rw [eq, num_is]
  simp only [Option.bind_some]
  rw [if_pos trivial, if_pos (by simp; omega), w2, if_neg (by simp), List.nil_append]
  rw [show allL [p, q] = (ln p).1 ++ (ln q).1 by simp [allL]] at hr
  rw [hr]
  simp only [Option.bind_some]
  exact fin _ rfl
 ·simp at hl
theorem top_l0 (k : Nat) (n : Nat) (hn : n ≤ 15) (t body : ByteArray) (chs : List (List Int)) (h12 : chs.length = 1 ∨ chs.length = 2) (hd : ∀ xs ∈ chs, shift_Down.f xs n = some (xs.map (dn n), 0)) (hb : ∀ xs ∈ chs, xs.length ≤ 4096) (hk : 9000 ≤ k) (hs : t.size = body.size + 9) (hz : t.size ≤ 281474976710656) (hx : t.extract 5 (t.size - 4) = body) (h1 : bt t 1 = n) (hr : residual_Put.f (allL (turnO (downs n chs) (-1)).1) = some (body, 0)) (hbd : badL (turnO (downs n chs) (-1)).2 (turnO (downs n chs) (-1)).1 = 0) : descanttop_TopCoded.l0 k t chs 0 [] 0 = some true := by
 have w1 : wrap64 (0 + 1) = 1 := by decide +kernel
 have w2 : wrap64 (1 + 1) = 2 := by decide +kernel
 have wn : wrap64 (bt t 1) = n := by rw [h1, Num.w64 (by omega) (by omega)]
 have ts : (1 : Int) < (t.size : Int) := by omega
 obtain ⟨m, hm, rfl⟩ : ∃ m, 8997 ≤ m ∧ k = m + 3 := ⟨k - 3, by omega, by omega⟩
 obtain ⟨e0, eall⟩ := (badL_0 _ _ (by rcases (turnO_len (downs n chs) (-1)).2 with e | e <;> omega)).1 hbd
 have hl2 := (turnO_len (downs n chs) (-1)).1
 have hsd : ∀ k', 8204 ≤ k' → side_Put.f k' (downs n chs) = some (turnO (downs n chs) (-1)) := fun k' hk' => side_is _ (by
  intro xs hxs
  obtain ⟨ys, hys, rfl⟩ := List.mem_map.1 hxs
  rw [List.length_map]
  exact hb ys hys) (by unfold downs; rw [List.length_map]; omega) k' hk'
 have fin : ∀ k', 9 ≤ k' → descanttop_TopCoded.l1 k' t 0 (turnO (downs n chs) (-1)).1 (turnO (downs n chs) (-1)).2 [] 0 = some true := fun k' hk' => by
  rw [show k' = (k' - 3) + 3 by omega, e0]
  exact top_end _ t body _ hl2 eall hs hz hx hr
 rcases chs with _ | ⟨a, _ | ⟨b, _ | ⟨c, z⟩⟩⟩
 ·simp at h12
 ·have ha := hd a (by simp)
  simp only [descanttop_TopCoded.l0]
  rw [if_pos (by simp), if_pos (by omega), if_pos ts, wn, show rd_L1 [a] 0 = a from rfl, ha]
  simp only [Option.bind_some, num_is]
  rw [if_pos trivial, if_pos (by simp), w1, if_neg (by simp), List.nil_append, show [a.map (dn n)] = downs n [a] from rfl, hsd _ (by omega)]
  simp only [Option.bind_some]
  exact fin _ (by omega)
 ·have ha := hd a (by simp)
  have hb' := hd b (by simp)
  simp only [descanttop_TopCoded.l0]
  rw [if_pos (by simp), if_pos (by omega), if_pos ts, wn, show rd_L1 [a, b] 0 = a from rfl, ha]
  simp only [Option.bind_some, num_is]
  rw [if_pos trivial, if_pos (by simp), w1, if_pos (by simp), if_pos (by omega), if_pos ts, show rd_L1 [a, b] 1 = b from rfl, hb']
  simp only [Option.bind_some]
  rw [List.nil_append, if_pos trivial, if_pos (show ([a.map (dn n)] : List (List Int)).length < 5864062014805 by show 1 < 5864062014805; omega), w2, if_neg (by simp), show [a.map (dn n)] ++ [b.map (dn n)] = downs n [a, b] from rfl, hsd _ (by omega)]
  simp only [Option.bind_some]
  exact fin _ (by omega)
 ·simp at h12
theorem coded_law (s : ByteArray) (c b : Int) (hs : s.size ≤ 140737488351232) : descanttop_TopCoded.f 30001 s c b = some true := by
 obtain ⟨k, hk⟩ : ∃ k, k = 30000 := ⟨_, rfl⟩
 rw [show (30001 : Nat) = k + 1 by omega]
 unfold descanttop_TopCoded.f
 rw [show descanttop_awake.f = some true from rfl]
 simp only [Option.bind_some]
 rw [if_pos trivial]
 rcases put_cases (k + 1) (by omega) s c b hs with h | ⟨t, h, h9, h1⟩ | ⟨hok, t, h, h1, n, n15, hsd, body, hbs, hsz, ht1, ht5, hres, hbad⟩
 ·rw [h]
  simp only [Option.bind_some, num_is]
  rw [if_neg (by decide)]
  simp only [descanttop_TopCoded.j0, num_is]
  rw [if_pos trivial]
  simp only [Option.bind_some]
  rw [if_neg (by decide), (Bytes.nil_iff _).2 (show (⟨#[]⟩ : ByteArray).size = 0 from rfl)]
  rfl
 ·rw [h]
  simp only [Option.bind_some, num_is]
  rw [if_pos trivial, if_neg (by omega), if_pos (by omega), bne_iff_ne.2 h1]
  simp only [descanttop_TopCoded.j0, num_is]
  rw [if_pos trivial]
  simp only [Option.bind_some]
  rw [if_pos trivial]
 ·rw [h]
  simp only [Option.bind_some, num_is]
  obtain ⟨h12, hall⟩ := samples_ok hok
  rw [if_pos trivial, if_neg (by omega), if_pos (by omega), h1]
  simp only [descanttop_TopCoded.j0]
  rw [if_neg (by decide), show pcm_Get.f k s c b = some (samples s c b, 0) by rw [show k = (k - 4200) + 4200 by omega, get_eq, if_pos hok]]
  simp only [Option.bind_some]
  exact top_l0 k n n15 t body _ h12 hsd (fun xs hx => (hall xs hx).1) (by omega) hsz (by omega) ht5 ht1 hres hbad
theorem topCoded_walk (a0 : ByteArray) (c b : Int) (w : World) (w0 : a0.size ≤ 140737488351232) (_ : ∀ x ∈ [c, b], IntKind.i64.has x) (hL : Extra.Laid w) : Calls Tryz.prog 6 #[.string a0, .agg #[.int .i64 c, .int .i64 b]] w fun e w' => e = .returned (.bool true) ∧ Below w.heap.size w w' :=
 descanttop_TopCoded.calls 30001 a0 c b true w (coded_law a0 c b w0) hL
end Go.Proofs.YtnoibcdojfnicaaGreatDoor.PG
