/- A part of the proof of a law of descanttop: this session's own texts and printed texts, shortened and joined. -/
import Derived.Test.YtnoibcdojfnicaaGreatDoorE30
import Derived.Test.YtnoibcdojfnicaaGreatDoorE32
set_option linter.unusedVariables false
set_option linter.unusedSimpArgs false
set_option maxRecDepth 100000
set_option maxHeartbeats 16000000
namespace Go.Proofs.YtnoibcdojfnicaaGreatDoor.PG
open Go.Proofs.YtnoibcdojfnicaaGreatDoorW.Short
open Bool renaming true → Y, false → J
open Go Go.RowKit Go.Proofs.YtnoibcdojfnicaaGreatDoorW.PrintWords Go.Proofs.YtnoibcdojfnicaaGreatDoorW.PrintMore Go.Proofs.YtnoibcdojfnicaaGreatDoorW.PrintLast
open Go.Proofs.YtnoibcdojfnicaaGreatDoor.Modn
attribute [-go_sem] Instr.loadAt Instr.storeAt Instr.build
def rS25T : Bool × List (List Nat × List Nat) := (true, [([], []), ([0], [0]), ([], []), ([], []), ([2, 3], [2, 3]), ([4], [4]), ([1, 5, 4], [1, 5]), ([0, 1, 2, 3, 4, 5, 6], []), ([7, 6, 6, 0, 1, 2, 3, 4, 5, 6], [6, 7])])
def rS25B : List Nat := [0, 1, 0, 0, 12, 28, 63, 127, 255]
theorem rS25_tab : rtab .any (opsOf Tryz.f37 25) = rS25T := by kernel_rfl
theorem rS25_bits : waitsOk rS25T.2 rS25B = true := by kernel_rfl
def st0 : St := ⟨0, 0, 0, 0, ⟨#[]⟩, ⟨#[]⟩, []⟩
theorem ld_int (v : Value) : Instr.loadAt 3 v = (do loadVar 3 (← Instr.sureAddr v)) := rfl
theorem ld_bool (v : Value) : Instr.loadAt 4 v = (do loadVar 4 (← Instr.sureAddr v)) := rfl
theorem ld_strs (v : Value) : Instr.loadAt 84 v = (do loadVar 84 (← Instr.sureAddr v)) := rfl
theorem so_bool (v u : Value) : Instr.storeAt 4 v u = (do storeVar 4 (← Instr.sureAddr v) u) := rfl
theorem so_str (v u : Value) : Instr.storeAt 9 v u = (do storeVar 9 (← Instr.sureAddr v) u) := rfl
theorem so_strs (v u : Value) : Instr.storeAt 84 v u = (do storeVar 84 (← Instr.sureAddr v) u) := rfl
theorem bu_rd (w : World) (s : ByteArray) : (Instr.build TR_ #[(0, .string s)]).run Tryz.prog w = .ok (.agg (rdC s 0 false)) w := by kernel_rfl
theorem bu_fm (w : World) (c b : Int) : (Instr.build 69 #[(0, .int .i64 c), (1, .int .i64 b)]).run Tryz.prog w = .ok (.agg #[.int .i64 c, .int .i64 b]) w := by kernel_rfl
theorem bu_st0 (w : World) : (Instr.build 86 #[]).run Tryz.prog w = .ok (.agg (stC st0 none 0)) w := by kernel_rfl
theorem bu_st3 (w : World) (c b z f : Int) : (Instr.build 86 #[(0, .agg #[.int .i64 c, .int .i64 b]), (1, .int .i64 z), (2, .int .i64 f)]).run Tryz.prog w = .ok (.agg (stC ⟨c, b, z, f, ⟨#[]⟩, ⟨#[]⟩, []⟩ none 0)) w := by kernel_rfl
theorem st_one (x : St) (A : Option Addr) (n : Nat) : (stC x A n).all (·.oneCell') = true := by simp [stC, Value.oneCell']
theorem store_st {w : World} {g : Nat} {x : St} {A : Option Addr} {n : Nat} (h : w.heap[g]? = some (.cells (stC x A n) 86 (0, 0))) (y : St) (B : Option Addr) (m : Nat) : (Instr.storeAt 86 (.pointer (some { block := g, off := 0 })) (.agg (stC y B m))).run Tryz.prog w = .ok () (w.setRow g (stC y B m)) :=
 Agg.store_all h _ _ kr rfl (st_one y B m)
theorem store_new_st (w : World) (x y : St) (A B : Option Addr) (n m : Nat) : (Instr.storeAt 86 (.pointer (some { block := w.heap.size, off := 0 })) (.agg (stC y B m))).run Tryz.prog (w.alloc (.cells (stC x A n) 86 (0, 0))) = .ok () (w.alloc (.cells (stC y B m) 86 (0, 0))) := by
 rw [store_st (blk_new w _) y B m, World.setRow_alloc_new]
theorem shut_st : (#[.int .i64 0, .int .i64 0, .int .i64 0, .int .i64 0, .string ⟨#[]⟩, .string ⟨#[]⟩, .slice none 0 0] : Array Value) = stC st0 none 0 := rfl
attribute [local go_sem high] ld_int ld_bool ld_strs so_bool so_str so_strs bu_rd bu_fm bu_st0 bu_st3 store_new_st shut_st
theorem c_nil (w : World) (A : Option Addr) : Kd.string.C w A ([] : List ByteArray).length [] := ⟨rfl, by simp, fun h => absurd h (by simp)⟩
theorem ro_mod {α : Type} {d : Kd α} {e : Nat} {w w' : World} {base g : Nat} {v : Value} {xs : List α} {cs : Array Value} {T : TypeId} (h : d.R e w base (fun _ => True) v xs) (hb : w.heap[g]? = some (.cells cs T (0, 0))) (hT : ∀ q, q ∈ e :: d.E → q ≠ T) (hk : ∀ k, k < w.heap.size → k ≠ g → w'.heap[k]? = w.heap[k]?) : d.R e w' base (fun _ => True) v xs :=
 Kd.R_mono (Kd.R_step (Kd.R_types h hb hT) (fun k hk2 hlt => hk k hlt hk2.2)) (fun _ _ => trivial)
abbrev RN (w : World) (base : Nat) (v : Value) (xs : List Int) : Prop := (Kd.int .i64).R 3 w base (fun _ => True) v xs
abbrev RS (w : World) (base : Nat) (v : Value) (xs : List ByteArray) : Prop := Kd.string.R 9 w base (fun _ => True) v xs
theorem tyN {T : TypeId} (h : (3 : TypeId) ≠ T) : ∀ q, q ∈ 3 :: (Kd.int .i64).E → q ≠ T := by
 intro q hq
 have : q = 3 := by simpa [Kd.int, Kd.scalar] using hq
 rw [this]; exact h
theorem tyS {T : TypeId} (h : (9 : TypeId) ≠ T) : ∀ q, q ∈ 9 :: Kd.string.E → q ≠ T := by
 intro q hq
 have : q = 9 := by simpa [Kd.string, Kd.scalar] using hq
 rw [this]; exact h
theorem infoN : (Tryz.prog.info? 3).map (fun i => (i.zero, i.size, i.bytes)) = some (some (.int .i64 0), 1, 8) := by kernel_rfl
theorem infoS : (Tryz.prog.info? 9).map (fun i => (i.zero, i.size, i.bytes)) = some (some (.string ⟨#[]⟩), 1, 16) := by kernel_rfl
theorem many_le {f z : Int} (h0 : 0 ≤ f) (h1 : f ≤ 4096) (h2 : 1 ≤ z) (h3 : z ≤ 64) : manyV f z ≤ 8192 := by
 unfold manyV
 rw [Num.w64 (n := f + z) (by omega) (by omega), Num.w64 (n := f + z - 1) (by omega) (by omega)]
 have h4 : 0 ≤ Int.tdiv (f + z - 1) z := Int.tdiv_nonneg (by omega) (by omega)
 have h5 : Int.tdiv (f + z - 1) z ≤ f + z - 1 := Int.tdiv_le_self _ (by omega)
 rw [Num.w64 (by omega) (by omega)]
 omega
theorem cellN {w : World} {base : Nat} {A : Option Addr} {n c : Nat} {xs : List Int} (h : RN w base (.slice A n c) xs) {k : Nat} (hk : k < xs.length) : ∃ ad, A = some ad ∧ w.cell? (ad.add k) = some (.int .i64 (xs.getD k 0)) := by
 obtain ⟨ad, e, hx⟩ := Kd.at_int (Kd.R_reads' h).2.2 (k : Int) (by omega) (by omega)
 rw [Int.toNat_natCast] at hx
 refine ⟨ad, e, ?_⟩
 rw [hx]
 simp [rd]
theorem drop_consI {xs : List Int} {k : Nat} (h : k < xs.length) : xs.drop k = xs.getD k 0 :: xs.drop (k + 1) := by
 rw [List.drop_eq_getElem_cons h, List.getD_eq_getElem?_getD, List.getElem?_eq_getElem h]
 rfl
def fldG (k : Nat) (s : ByteArray) (at_ : Int) (bad : Bool) (n : Int) : Option (Int × Int × Bool) := (fieldV k (takeF s at_ bad n).1).map fun x => (x, (takeF s at_ bad n).2.1, (takeF s at_ bad n).2.2)
def numH (k : Nat) (s : ByteArray) (at_ : Int) (bad : Bool) : Option (Int × Int × Bool) := (numG k s at_ bad).bind fun r => if 0 ≤ r.2.1 ∧ r.2.1 ≤ (s.size : Int) then some r else none
theorem take_r {g : Nat} {s : ByteArray} {at_ : Int} {bad : Bool} {n : Int} {t : ByteArray} {a : Int} {b : Bool} (hT : takeF s at_ bad n = (t, a, b)) (h0 : 0 ≤ at_ ∧ at_ ≤ s.size) (hs : s.size ≤ 140737488351232) (W : World) (hg : W.heap[g]? = some (.cells (rdC s at_ bad) TR_ (0, 0))) : Calls Tryz.prog 92 #[.pointer (some ⟨g, 0, none⟩), .int .i64 n] W fun e w' => e = .returned (.string t) ∧ w'.heap[g]? = some (.cells (rdC s a b) TR_ (0, 0)) ∧ Mod g W.heap.size W w' := by
 have h := take_c g s at_ bad n W h0.1 h0.2 hs hg
 rw [hT] at h
 exact h
theorem take_b {s : ByteArray} {at_ : Int} {bad : Bool} {n : Int} {t : ByteArray} {a : Int} {b : Bool} (hT : takeF s at_ bad n = (t, a, b)) (h0 : 0 ≤ at_ ∧ at_ ≤ s.size) : 0 ≤ a ∧ a ≤ s.size := by
 have h := take_at (n := n) (bad := bad) h0
 rw [hT] at h
 exact h
theorem fld_r {k g : Nat} {s : ByteArray} {at_ : Int} {bad : Bool} {n x a : Int} {b : Bool} (hF : fldG k s at_ bad n = some (x, a, b)) (h0 : 0 ≤ at_ ∧ at_ ≤ s.size) (hs : s.size ≤ 140737488351232) (W : World) (hg : W.heap[g]? = some (.cells (rdC s at_ bad) TR_ (0, 0))) : Calls Tryz.prog 93 #[.pointer (some ⟨g, 0, none⟩), .int .i64 n] W fun e w' => e = .returned (.int .i64 x) ∧ w'.heap[g]? = some (.cells (rdC s a b) TR_ (0, 0)) ∧ Mod g W.heap.size W w' := by
 obtain ⟨y, hy, e⟩ := Option.map_eq_some_iff.1 hF
 injection e with e1 e2
 injection e2 with e2 e3
 subst e1 e2 e3
 exact field_c k g s at_ bad n y W h0.1 h0.2 hs hy hg
theorem fld_b {k : Nat} {s : ByteArray} {at_ : Int} {bad : Bool} {n x a : Int} {b : Bool} (hF : fldG k s at_ bad n = some (x, a, b)) (h0 : 0 ≤ at_ ∧ at_ ≤ s.size) : 0 ≤ a ∧ a ≤ s.size := by
 obtain ⟨y, hy, e⟩ := Option.map_eq_some_iff.1 hF
 injection e with e1 e2
 injection e2 with e2 e3
 subst e2
 exact take_at h0
theorem num_r {k g : Nat} {s : ByteArray} {at_ : Int} {bad : Bool} {x a : Int} {b : Bool} (hF : numH k s at_ bad = some (x, a, b)) (W : World) (hg : W.heap[g]? = some (.cells (rdC s at_ bad) TR_ (0, 0))) : Calls Tryz.prog 94 #[.pointer (some ⟨g, 0, none⟩)] W fun e w' => e = .returned (.int .i64 x) ∧ w'.heap[g]? = some (.cells (rdC s a b) TR_ (0, 0)) ∧ Mod g W.heap.size W w' := by
 obtain ⟨r, hr, h⟩ := Option.bind_eq_some_iff.1 hF
 split at h
 ·obtain rfl := Option.some.inj h
  exact num_c k g s at_ bad _ W hr hg
 ·cases h
theorem num_b {k : Nat} {s : ByteArray} {at_ : Int} {bad : Bool} {x a : Int} {b : Bool} (hF : numH k s at_ bad = some (x, a, b)) : 0 ≤ a ∧ a ≤ s.size := by
 obtain ⟨r, hr, h⟩ := Option.bind_eq_some_iff.1 hF
 split at h
 ·rename_i hc
  obtain rfl := Option.some.inj h
  exact hc
 ·cases h
def szI (n : Int) : Bool := decide (9 ≤ n) && decide (n ≤ 65535)
def sizesG (k : Nat) (s : ByteArray) : Nat → Int → Bool → Option (List Int × Int × Bool)
 | 0, a, b => some ([], a, b)
 | m + 1, a, b => (fldG k s a b 2).bind fun r => (sizesG k s m r.2.1 (r.2.2 || !szI r.1)).map fun q => (r.1 :: q.1, q.2)
def segsG (s : ByteArray) : List Int → Int → Bool → List ByteArray × Int × Bool
 | [], a, b => ([], a, b)
 | n :: r, a, b => ((takeF s a b n).1 :: (segsG s r (takeF s a b n).2.1 (takeF s a b n).2.2).1, (segsG s r (takeF s a b n).2.1 (takeF s a b n).2.2).2)
def stGet3 (s : ByteArray) (x : St) (ns : List Int) (a : Int) (b : Bool) : St × Int :=
 if (segsG s ns a b).2.2 = true then (st0, 2300) else if (segsG s ns a b).2.1 = (s.size : Int) then (⟨x.c, x.b, x.size, x.frames, x.head, x.tail, (segsG s ns a b).1⟩, 0) else (st0, 2300)
def stGet2 (k : Nat) (s : ByteArray) (x : St) (a : Int) (b : Bool) : Option (St × Int) :=
 (sizesG k s (manyV x.frames x.size).toNat a b).bind fun q => (fldG k s q.2.1 q.2.2 4).bind fun v => if v.2.2 = true then some (st0, 2300) else (crc_Sum.f (s.extract 0 q.2.1.toNat)).bind fun cs => if v.1 = cs then some (stGet3 s x q.1 v.2.1 v.2.2) else some (st0, 2301)
def stGet1 (k : Nat) (s : ByteArray) (a : Int) (b : Bool) : Option (St × Int) :=
 (fldG k s a b 1).bind fun c => (fldG k s c.2.1 c.2.2 1).bind fun b => (fldG k s b.2.1 b.2.2 1).bind fun z => (numH k s z.2.1 z.2.2).bind fun f => (numH k s f.2.1 f.2.2).bind fun h => (numH k s h.2.1 h.2.2).bind fun t =>
 if (takeF s (takeF s t.2.1 t.2.2 h.1).2.1 (takeF s t.2.1 t.2.2 h.1).2.2 t.1).2.2 = true then some (st0, 2300) else
 if headB ⟨c.1, b.1, z.1, f.1, (takeF s t.2.1 t.2.2 h.1).1, (takeF s (takeF s t.2.1 t.2.2 h.1).2.1 (takeF s t.2.1 t.2.2 h.1).2.2 t.1).1, []⟩ = true then stGet2 k s ⟨c.1, b.1, z.1, f.1, (takeF s t.2.1 t.2.2 h.1).1, (takeF s (takeF s t.2.1 t.2.2 h.1).2.1 (takeF s t.2.1 t.2.2 h.1).2.2 t.1).1, []⟩ (takeF s (takeF s t.2.1 t.2.2 h.1).2.1 (takeF s t.2.1 t.2.2 h.1).2.2 t.1).2.1 false else some (st0, 2300)
def stGet (k : Nat) (s : ByteArray) : Option (St × Int) :=
 if (s.size : Int) > 65536 then some (st0, 2300) else if (takeF s 0 false 4).1.toList = ([68, 83, 67, 84] : List UInt8) then stGet1 k s (takeF s 0 false 4).2.1 (takeF s 0 false 4).2.2 else some (st0, 2300)
theorem stGet_c (k : Nat) (s : ByteArray) (R : St × Int) (W : World) (h : stGet k s = some R) : Calls Tryz.prog 37 #[.string s] W fun e w' => ∃ A n, e = .returned (.tuple #[.agg (stC R.1 A n), .int .i64 R.2]) ∧ Kd.string.C w' A R.1.segs.length R.1.segs ∧ R.1.segs.length ≤ n ∧ Below W.heap.size W w' := by
 unfold stGet at h
 obtain ⟨q, hq⟩ : ∃ q, q = W.heap.size := ⟨_, rfl⟩
 obtain ⟨g, hg⟩ : ∃ g, g = q + 1 := ⟨_, rfl⟩
 have hg2 : (W.alloc (.cells (stC st0 none 0) 86)).heap.size = g := by rw [hg, hq]; simp
 have hqg : q < g := by omega
 have hWq : W.heap.size ≤ q := by omega
 have hWg : W.heap.size ≤ g := by omega
 have Q2 := Lib.hid (blk_alloc (blk_new W (.cells (stC st0 none 0) 86)) (.cells (rdC s 0 false) TR_))
 have G2 := Lib.hid (blk_new (W.alloc (.cells (stC st0 none 0) 86)) (.cells (rdC s 0 false) TR_))
 have H2 := Lib.hid (below_alloc (below_alloc (Below.refl W.heap.size W) (.cells (stC st0 none 0) 86)) (.cells (rdC s 0 false) TR_))
 obtain ⟨w2, hw2⟩ : ∃ w2, w2 = (W.alloc (.cells (stC st0 none 0) 86)).alloc (.cells (rdC s 0 false) TR_) := ⟨_, rfl⟩
 rw [← hw2] at Q2 G2 H2
 rw [← hq] at Q2
 rw [hg2] at G2
 have EQ := Lib.hid hq
 have EG := Lib.hid hg
 have EW := Lib.hid hw2
 clear hq hg hw2 hg2
 by_cases hlen : (s.size : Int) > 65536
 ·rw [if_pos hlen] at h
  obtain rfl := Option.some.inj h
  have c1 : decide ((s.size : Int) > 65536) = true := decide_eq_true hlen
  clear h
  have QR := blk_alloc (blk_new W (.cells (stC st0 none 0) 86)) (.cells (rdC s 0 false) TR_)
  have HR := below_alloc (below_alloc (Below.refl W.heap.size W) (.cells (stC st0 none 0) 86)) (.cells (rdC s 0 false) TR_)
  have sq := store_st QR st0 none 0
  clear Q2 G2 H2 EQ EG EW
  go_enter Tryz.func37, Tryz.ntmps37
  go_wp2_with fail
  exact bodyPost_ret (results_ct rfl _ _ W.heap.size 86 (stC st0 none 0) (0, 0) _ rfl (Agg.blk_row QR _) Tryz.underlying86 rfl kr) rfl ⟨none, 0, rfl, c_nil _ _, Nat.le_refl _, Agg.below_row HR (Nat.le_refl _) _⟩
 ·rw [if_neg hlen] at h
  have c1 : decide ((s.size : Int) > 65536) = false := decide_eq_false hlen
  have hs : s.size ≤ 140737488351232 := by omega
  rcases hT0 : takeF s 0 false 4 with ⟨t0, a0, b0⟩
  rw [hT0] at h
  dsimp only at h
  have zz : (0 : Int) ≤ 0 ∧ (0 : Int) ≤ s.size := ⟨Int.le_refl _, by omega⟩
  have A0 := take_b hT0 zz
  have C0 := Lib.hid (fun W => take_r (g := g) hT0 zz hs W)
  clear hT0 zz
  by_cases hn : t0.toList = ([68, 83, 67, 84] : List UInt8)
  ·rw [if_pos hn] at h
   have n1 : (t0.toList == ([68, 83, 67, 84] : List UInt8)) = true := beq_iff_eq.2 hn
   have n2 : (t0.toList != ([68, 83, 67, 84] : List UInt8)) = false := bne_eq_false_iff_eq.2 hn
   clear hn
   unfold stGet1 at h
   obtain ⟨⟨c, a1, b1⟩, F1, h⟩ := Option.bind_eq_some_iff.1 h
   have A1 := fld_b F1 A0
   have C1 := Lib.hid (fun W => fld_r (g := g) F1 A0 hs W)
   obtain ⟨⟨b, a2, b2⟩, F2, h⟩ := Option.bind_eq_some_iff.1 h
   have A2 := fld_b F2 A1
   have C2 := Lib.hid (fun W => fld_r (g := g) F2 A1 hs W)
   obtain ⟨⟨z, a3, b3⟩, F3, h⟩ := Option.bind_eq_some_iff.1 h
   have A3 := fld_b F3 A2
   have C3 := Lib.hid (fun W => fld_r (g := g) F3 A2 hs W)
   obtain ⟨⟨f, a4, b4⟩, F4, h⟩ := Option.bind_eq_some_iff.1 h
   have A4 := num_b F4
   have C4 := Lib.hid (fun W => num_r (g := g) F4 W)
   obtain ⟨⟨hd, a5, b5⟩, F5, h⟩ := Option.bind_eq_some_iff.1 h
   have A5 := num_b F5
   have C5 := Lib.hid (fun W => num_r (g := g) F5 W)
   obtain ⟨⟨tl, a6, b6⟩, F6, h⟩ := Option.bind_eq_some_iff.1 h
   have A6 := num_b F6
   have C6 := Lib.hid (fun W => num_r (g := g) F6 W)
   clear F1 F2 F3 F4 F5 F6
   dsimp only at h
   rcases hT7 : takeF s a6 b6 hd with ⟨t7, a7, b7⟩
   rw [hT7] at h
   dsimp only at h
   have A7 := take_b hT7 A6
   have C7 := Lib.hid (fun W => take_r (g := g) hT7 A6 hs W)
   rcases hT8 : takeF s a7 b7 tl with ⟨t8, a8, b8⟩
   rw [hT8] at h
   dsimp only at h
   have A8 := take_b hT8 A7
   have C8 := Lib.hid (fun W => take_r (g := g) hT8 A7 hs W)
   clear hT7 hT8 A0 A1 A2 A3 A4 A5 A6 A7
   have HH := Lib.hid h
   clear h
   go_enter Tryz.func37, Tryz.ntmps37
   go_wp2_with fail
   rw [← EW.out]
   simp only [← EQ.out]
   simp only [← EG.out]
   have hqg0 : q ≠ g := by omega
   refine (C0.out _ G2.out).mono ?_
   rintro e w3 ⟨rfl, gg, mm⟩
   have G3 := Lib.hid gg
   have H3 := Lib.hid (mm.below H2.out hWg H2.out.size)
   have Q3 := Lib.hid ((mm.block q (blk_lt Q2.out) hqg0).trans Q2.out)
   clear gg mm G2 H2 Q2 C0
   go_wp2_with fail
   refine (C1.out _ G3.out).mono ?_
   rintro e w4 ⟨rfl, gg, mm⟩
   have G4 := Lib.hid gg
   have H4 := Lib.hid (mm.below H3.out hWg H3.out.size)
   have Q4 := Lib.hid ((mm.block q (blk_lt Q3.out) hqg0).trans Q3.out)
   clear gg mm G3 H3 Q3 C1
   go_wp2_with fail
   refine (C2.out _ G4.out).mono ?_
   rintro e w5 ⟨rfl, gg, mm⟩
   have G5 := Lib.hid gg
   have H5 := Lib.hid (mm.below H4.out hWg H4.out.size)
   have Q5 := Lib.hid ((mm.block q (blk_lt Q4.out) hqg0).trans Q4.out)
   clear gg mm G4 H4 Q4 C2
   go_wp2_with fail
   refine (C3.out _ G5.out).mono ?_
   rintro e w6 ⟨rfl, gg, mm⟩
   have G6 := Lib.hid gg
   have H6 := Lib.hid (mm.below H5.out hWg H5.out.size)
   have Q6 := Lib.hid ((mm.block q (blk_lt Q5.out) hqg0).trans Q5.out)
   clear gg mm G5 H5 Q5 C3
   go_wp2_with fail
   refine (C4.out _ G6.out).mono ?_
   rintro e w7 ⟨rfl, gg, mm⟩
   have G7 := Lib.hid gg
   have H7 := Lib.hid (mm.below H6.out hWg H6.out.size)
   have Q7 := Lib.hid ((mm.block q (blk_lt Q6.out) hqg0).trans Q6.out)
   clear gg mm G6 H6 Q6 C4
   go_wp2_with fail
   obtain ⟨gx, hgx⟩ : ∃ gx, gx = w7.heap.size := ⟨_, rfl⟩
   have X8 := Lib.hid (blk_new w7 (.cells (stC ⟨c, b, z, f, ⟨#[]⟩, ⟨#[]⟩, []⟩ none 0) 86))
   have G8 := Lib.hid (blk_alloc G7.out (.cells (stC ⟨c, b, z, f, ⟨#[]⟩, ⟨#[]⟩, []⟩ none 0) 86))
   have Q8 := Lib.hid (blk_alloc Q7.out (.cells (stC ⟨c, b, z, f, ⟨#[]⟩, ⟨#[]⟩, []⟩ none 0) 86))
   have H8 := Lib.hid (below_alloc H7.out (.cells (stC ⟨c, b, z, f, ⟨#[]⟩, ⟨#[]⟩, []⟩ none 0) 86))
   have hgx1 : g < gx := by rw [hgx]; exact blk_lt G7.out
   have hWx : W.heap.size ≤ gx := by omega
   have hxg : gx ≠ g := by omega
   have hqx : q ≠ gx := by omega
   simp only [← hgx] at X8 ⊢
   generalize w7.alloc (.cells (stC ⟨c, b, z, f, ⟨#[]⟩, ⟨#[]⟩, []⟩ none 0) 86) = w8 at X8 G8 Q8 H8 ⊢
   clear hgx G7 Q7 H7
   refine (C5.out _ G8.out).mono ?_
   rintro e w9 ⟨rfl, gg, mm⟩
   have G9 := Lib.hid gg
   have H9 := Lib.hid (mm.below H8.out hWg H8.out.size)
   have Q9 := Lib.hid ((mm.block q (blk_lt Q8.out) hqg0).trans Q8.out)
   have X9 := Lib.hid ((mm.block gx (blk_lt X8.out) hxg).trans X8.out)
   clear gg mm G8 H8 Q8 X8 C5
   go_wp2_with fail
   refine (C6.out _ G9.out).mono ?_
   rintro e w10 ⟨rfl, gg, mm⟩
   have G10 := Lib.hid gg
   have H10 := Lib.hid (mm.below H9.out hWg H9.out.size)
   have Q10 := Lib.hid ((mm.block q (blk_lt Q9.out) hqg0).trans Q9.out)
   have X10 := Lib.hid ((mm.block gx (blk_lt X9.out) hxg).trans X9.out)
   clear gg mm G9 H9 Q9 X9 C6
   go_wp2_with fail
   refine (C7.out _ G10.out).mono ?_
   rintro e w11 ⟨rfl, gg, mm⟩
   have G11 := Lib.hid gg
   have H11 := Lib.hid (mm.below H10.out hWg H10.out.size)
   have Q11 := Lib.hid ((mm.block q (blk_lt Q10.out) hqg0).trans Q10.out)
   have X11 := Lib.hid ((mm.block gx (blk_lt X10.out) hxg).trans X10.out)
   clear gg mm G10 H10 Q10 X10 C7
   go_wp2_with fail
   refine (C8.out _ G11.out).mono ?_
   rintro e w12 ⟨rfl, gg, mm⟩
   have G12 := Lib.hid gg
   have H12 := Lib.hid (mm.below H11.out hWg H11.out.size)
   have Q12 := Lib.hid ((mm.block q (blk_lt Q11.out) hqg0).trans Q11.out)
   have X12 := Lib.hid ((mm.block gx (blk_lt X11.out) hxg).trans X11.out)
   clear gg mm G11 H11 Q11 X11 C8
   have f4 := blk_frozen X12.out 4
   have f5 := blk_frozen X12.out 5
   have z12 := blk_lt X12.out
   have f5b : (w12.setCell ⟨gx, 4, none⟩ (.string t7)).frozen? ⟨gx, 5, none⟩ = false := blk_frozen (blk_set X12.out 4 _) 5
   have X13 := Lib.hid ((blk_set (blk_set X12.out 4 (.string t7)) 5 (.string t8)).trans (show _ = some (Obj.cells (stC ⟨c, b, z, f, t7, t8, []⟩ none 0) 86 (0, 0)) from rfl))
   have G13 := Lib.hid (blk_far (p := ⟨gx, 5, none⟩) (blk_far (p := ⟨gx, 4, none⟩) G12.out (Ne.symm hxg) (.string t7)) (Ne.symm hxg) (.string t8))
   have Q13 := Lib.hid (blk_far (p := ⟨gx, 5, none⟩) (blk_far (p := ⟨gx, 4, none⟩) Q12.out hqx (.string t7)) hqx (.string t8))
   have H13 := Lib.hid (below_set (below_set H12.out hWx) hWx : Below W.heap.size W ((w12.setCell ⟨gx, 4, none⟩ (.string t7)).setCell ⟨gx, 5, none⟩ (.string t8)))
   obtain ⟨-, -, k2⟩ := rd_cells G13.out
   obtain ⟨-, -, -, -, j4, j5, -⟩ := st_cells X12.out
   have j5b : (w12.setCell ⟨gx, 4, none⟩ (.string t7)).cell? ⟨gx, 5, none⟩ = some (.string ⟨#[]⟩) := (cell_of_row _ gx 5 _ _ _ (blk_set X12.out 4 (.string t7))).trans rfl
   clear X12 G12 Q12 H12
   cases b8
   ·have h := HH.out
    rw [if_neg (by decide)] at h
    have HH := Lib.hid h
    clear h
    go_wp2_with fail
    generalize ((w12.setCell ⟨gx, 4, none⟩ (.string t7)).setCell ⟨gx, 5, none⟩ (.string t8)) = w13 at X13 G13 Q13 H13 ⊢
    clear f4 f5 z12 f5b j4 j5 j5b k2
    have HC := Lib.hid (head_c gx ⟨c, b, z, f, t7, t8, []⟩ none 0 w13 X13.out)
    refine HC.out.mono ?_
    rintro e w14 ⟨rfl, hb⟩
    have X14 := Lib.hid (blk_below X13.out hb)
    have G14 := Lib.hid (blk_below G13.out hb)
    have Q14 := Lib.hid (blk_below Q13.out hb)
    have H14 := Lib.hid (below_step H13.out hb)
    clear hb HC X13 G13 Q13 H13
    cases hh : headB ⟨c, b, z, f, t7, t8, []⟩
    ·have hR := HH.out
     rw [hh] at hR
     rw [if_neg (by decide)] at hR
     obtain rfl := Option.some.inj hR
     clear hR
     have sq := store_st Q14.out st0 none 0
     go_wp2_with fail
     exact bodyPost_ret (results_ct rfl _ _ q 86 (stC st0 none 0) (0, 0) _ rfl (Agg.blk_row Q14.out _) Tryz.underlying86 rfl kr) rfl ⟨none, 0, rfl, c_nil _ _, Nat.le_refl _, Agg.below_row H14.out hWq _⟩
    ·have hR := HH.out
     rw [hh, if_pos rfl] at hR
     obtain ⟨y1, y2, y3, y4, -, -⟩ := head_true hh
     have hM := many_le y3 y4 y1 y2
     have MC := Lib.hid (fun w => stream_Many.calls f z (manyV f z) w (manyV_f y1))
     unfold stGet2 at hR
     obtain ⟨m, hm⟩ : ∃ m, m = manyV f z := ⟨_, rfl⟩
     dsimp only at hR hM y1 y2 y3 y4
     rw [← hm] at MC hM hR
     clear hm hh y1 y2 y3 y4 HH
     obtain ⟨⟨ns, aE, bE⟩, hS, hR⟩ := Option.bind_eq_some_iff.1 hR
     have SZ := Lib.hid hS
     have HR := Lib.hid hR
     clear hS hR
     obtain ⟨-, -, k2, k3, -, -, -⟩ := st_cells X14.out
     go_wp2_with fail
     refine (MC.out _).mono ?_
     rintro e w15 ⟨rfl, hd⟩
     have hb := hd.below
     have X15 := Lib.hid (blk_below X14.out hb)
     have G15 := Lib.hid (blk_below G14.out hb)
     have Q15 := Lib.hid (blk_below Q14.out hb)
     have H15 := Lib.hid (below_step H14.out hb)
     clear hb hd MC X14 G14 Q14 H14 k2 k3
     go_wp2_with fail
     have R15 : Hid (RN w15 W.heap.size (.slice none 0 0) []) := Lib.hid (Kd.R_nil _ _ _ _ _)
     go_loopw [8, 62] (fun v i wr => ∃ (j : Nat) (a : Int) (bd : Bool) (out rest : List Int), j ≤ m.toNat ∧ i = .int .i64 j ∧ Hid (sizesG k s (m.toNat - j) a bd = some (rest, aE, bE)) ∧ Hid (out ++ rest = ns) ∧ out.length = j ∧ Hid (0 ≤ a ∧ a ≤ (s.size : Int)) ∧ Hid (RN wr W.heap.size v out) ∧ Hid (wr.heap[g]? = some (.cells (rdC s a bd) TR_ (0, 0))) ∧ Hid (wr.heap[gx]? = some (.cells (stC ⟨c, b, z, f, t7, t8, []⟩ none 0) 86 (0, 0))) ∧ Hid (wr.heap[q]? = some (.cells (stC st0 none 0) 86 (0, 0))) ∧ Hid (Below W.heap.size W wr)) (fun _ i _ => m.toNat - (intOf i).toNat)
     case atStart => exact ⟨0, a8, false, [], ns, by omega, rfl, SZ, Lib.hid rfl, rfl, Lib.hid A8, R15, G15, X15, Q15, H15⟩
     case round =>
      clear R15 G15 X15 Q15 H15 SZ
      obtain ⟨j, a, bd, out, rest, hj, rfl, hT, hO, hol, hA, hR, hG, hX, hQ, hB⟩ := hrel
      by_cases hlt : j < m.toNat
      ·have jm : decide ((j : Int) < m) = true := decide_eq_true (by omega)
       have hT2 := hT.out
       rw [show m.toNat - j = (m.toNat - (j + 1)) + 1 by omega] at hT2
       unfold sizesG at hT2
       obtain ⟨⟨n, a', b'⟩, F1, hT2⟩ := Option.bind_eq_some_iff.1 hT2
       obtain ⟨⟨rest2, aE2, bE2⟩, hT3, e3⟩ := Option.map_eq_some_iff.1 hT2
       dsimp only at hT3
       injection e3 with e3 e4
       injection e4 with e4 e5
       subst e3 e4 e5
       have A' := fld_b F1 hA.out
       have C9 := Lib.hid (fun W => fld_r (g := g) F1 hA.out hs W)
       have T3 := Lib.hid hT3
       have O3 := Lib.hid (show (out ++ [n]) ++ rest2 = ns by rw [List.append_assoc]; exact hO.out)
       clear hT hT2 hT3 F1 hO hA
       go_wp2_with fail
       refine (C9.out _ hG.out).mono ?_
       rintro e w16 ⟨rfl, gg, mm⟩
       have G16 := Lib.hid gg
       have X16 := Lib.hid ((mm.block gx (blk_lt hX.out) hxg).trans hX.out)
       have Q16 := Lib.hid ((mm.block q (blk_lt hQ.out) hqg0).trans hQ.out)
       have H16 := Lib.hid (mm.below hB.out hWg hB.out.size)
       have R16 := Lib.hid (ro_mod hR.out hG.out (tyN (by decide)) (fun k hk hn => mm.block k hk hn))
       clear gg mm hG hX hQ hB hR C9
       obtain ⟨Av, cv, rfl⟩ := Kd.R_slice R16.out
       rw [hol] at R16
       obtain ⟨j0, j1, k2⟩ := rd_cells G16.out
       have f2 := blk_frozen G16.out 2
       have z16 := blk_lt G16.out
       cases b'
       ·have SC := Lib.hid (fun w => size_c n w)
        obtain ⟨u, hu⟩ : ∃ u, u = szI n := ⟨_, rfl⟩
        have hu2 := hu
        unfold szI at hu2
        have T4 : Hid (sizesG k s (m.toNat - (j + 1)) a' (!u) = some (rest2, aE2, bE2)) := Lib.hid (by rw [hu]; exact T3.out)
        rw [← hu2] at SC
        clear hu hu2 T3
        skip
        have G17 := Lib.hid ((blk_set G16.out 2 (.bool (!u))).trans (show _ = some (Obj.cells (rdC s a' (!u)) TR_ (0, 0)) from rfl))
        have X17 := Lib.hid (blk_far (p := ⟨g, 2, none⟩) X16.out hxg (.bool (!u)))
        have Q17 := Lib.hid (blk_far (p := ⟨g, 2, none⟩) Q16.out hqg0 (.bool (!u)))
        have H17 : Hid (Below W.heap.size W (w16.setCell ⟨g, 2, none⟩ (.bool (!u)))) := Lib.hid (below_set H16.out hWg)
        have R17 : Hid (RN (w16.setCell ⟨g, 2, none⟩ (.bool (!u))) W.heap.size (.slice Av j cv) out) := Lib.hid (ro_mod R16.out G16.out (tyN (by decide)) (fun k hk hn => Below.heap_setCell w16 ⟨g, 2, none⟩ (.bool (!u)) k hn))
        have hsz : (w16.setCell ⟨g, 2, none⟩ (.bool (!u))).heap.size = w16.heap.size := by simp
        clear G16 X16 Q16 H16 R16
        go_wp2_with (first | (go_at_call 97; refine (SC.out _).mono ?_; rintro e w' ⟨rfl, hw⟩; have hw := hw.symm; subst hw) | ((with_reducible refine gate_builtin (b := .append) (xs := #[.tmp 78, .tmp 80]) rfl ?_); at_builtin; refine Kd.R_append (Kd.int .i64) (w0 := W) (W := (w16.setCell ⟨g, 2, none⟩ (.bool (!u)))) W.heap.size rfl (.tmp 78) (.tmp 80) 22 3 (.int .i64 0) 8 rfl Tryz.underlying22 infoN rfl (by decide) (by omega) (.slice Av j cv) out n [.int .i64 n] (fun _ => True) (fun _ => False) rfl (by rw [hsz]; rfl) ?aP (fun _ hk => hk.elim) ?aF ?aO ?aB ?aS ?aL ?_; (case aP => exact rfl); (case aF => exact (fun _ _ => trivial)); (case aO => exact R17.out); (case aB => exact H17.out); (case aS => exact H17.out.size); (case aL => omega); intro v1 w18 ho hb hg hat; have G18 := Lib.hid (blk_grown G17.out hg (Kd.R_ne R17.out G17.out (by decide))); have X18 := Lib.hid (blk_grown X17.out hg (Kd.R_ne R17.out X17.out (by decide))); have Q18 := Lib.hid (blk_grown Q17.out hg (Kd.R_ne R17.out Q17.out (by decide))); have H18 := Lib.hid hb; have R18 := Lib.hid ho; clear hb hg hat ho G17 X17 Q17 H17 R17))
        exact ⟨⟨j + 1, a', (!u), out ++ [n], rest2, by omega, by go_num, T4, O3, by rw [List.length_append, hol]; rfl, Lib.hid A', R18, G18, X18, Q18, H18⟩, by simp [intOf]; omega⟩
       ·have T4 : Hid (sizesG k s (m.toNat - (j + 1)) a' true = some (rest2, aE2, bE2)) := Lib.hid T3.out
        clear T3
        have G17 := Lib.hid ((blk_set G16.out 2 (.bool true)).trans (show _ = some (Obj.cells (rdC s a' true) TR_ (0, 0)) from rfl))
        have X17 := Lib.hid (blk_far (p := ⟨g, 2, none⟩) X16.out hxg (.bool true))
        have Q17 := Lib.hid (blk_far (p := ⟨g, 2, none⟩) Q16.out hqg0 (.bool true))
        have H17 : Hid (Below W.heap.size W (w16.setCell ⟨g, 2, none⟩ (.bool true))) := Lib.hid (below_set H16.out hWg)
        have R17 : Hid (RN (w16.setCell ⟨g, 2, none⟩ (.bool true)) W.heap.size (.slice Av j cv) out) := Lib.hid (ro_mod R16.out G16.out (tyN (by decide)) (fun k hk hn => Below.heap_setCell w16 ⟨g, 2, none⟩ (.bool true) k hn))
        have hsz : (w16.setCell ⟨g, 2, none⟩ (.bool true)).heap.size = w16.heap.size := by simp
        clear G16 X16 Q16 H16 R16
        go_wp2_with (((with_reducible refine gate_builtin (b := .append) (xs := #[.tmp 78, .tmp 80]) rfl ?_); at_builtin; refine Kd.R_append (Kd.int .i64) (w0 := W) (W := (w16.setCell ⟨g, 2, none⟩ (.bool true))) W.heap.size rfl (.tmp 78) (.tmp 80) 22 3 (.int .i64 0) 8 rfl Tryz.underlying22 infoN rfl (by decide) (by omega) (.slice Av j cv) out n [.int .i64 n] (fun _ => True) (fun _ => False) rfl (by rw [hsz]; rfl) ?aP (fun _ hk => hk.elim) ?aF ?aO ?aB ?aS ?aL ?_; (case aP => exact rfl); (case aF => exact (fun _ _ => trivial)); (case aO => exact R17.out); (case aB => exact H17.out); (case aS => exact H17.out.size); (case aL => omega); intro v1 w18 ho hb hg hat; have G18 := Lib.hid (blk_grown G17.out hg (Kd.R_ne R17.out G17.out (by decide))); have X18 := Lib.hid (blk_grown X17.out hg (Kd.R_ne R17.out X17.out (by decide))); have Q18 := Lib.hid (blk_grown Q17.out hg (Kd.R_ne R17.out Q17.out (by decide))); have H18 := Lib.hid hb; have R18 := Lib.hid ho; clear hb hg hat ho G17 X17 Q17 H17 R17))
        exact ⟨⟨j + 1, a', true, out ++ [n], rest2, by omega, by go_num, T4, O3, by rw [List.length_append, hol]; rfl, Lib.hid A', R18, G18, X18, Q18, H18⟩, by simp [intOf]; omega⟩
      ·obtain rfl : j = m.toNat := by omega
       have jm : decide (((m.toNat : Nat) : Int) < m) = false := decide_eq_false (by omega)
       have hT2 := hT.out
       rw [Nat.sub_self] at hT2
       obtain ⟨rfl, rfl, rfl⟩ : rest = [] ∧ aE = a ∧ bE = bd := by
        injection (Option.some.inj hT2) with e1 e2
        injection e2 with e2 e3
        exact ⟨e1.symm, e2.symm, e3.symm⟩
       have hO2 := hO.out
       rw [List.append_nil] at hO2
       subst hO2
       clear hT hT2 hO hlt jm
       have hJ : out.length ≤ 8192 := by rw [hol]; omega
       clear hol
       obtain ⟨Av, cv, rfl⟩ := Kd.R_slice hR.out
       obtain ⟨j0, j1, k2⟩ := rd_cells hG.out
       have hR2 := HR.out
       (try dsimp only at hR2)
       obtain ⟨⟨want, aF, bF⟩, F4, hR2⟩ := Option.bind_eq_some_iff.1 hR2
       have AF := Lib.hid (fld_b F4 hA.out)
       have C10 := Lib.hid (fun W => fld_r (g := g) F4 hA.out hs W)
       have HR3 := Lib.hid hR2
       clear F4 hR2 HR
       (try dsimp only at HR3)
       go_wp2_with fail
       refine (C10.out _ hG.out).mono ?_
       rintro e w16 ⟨rfl, gg, mm⟩
       have G16 := Lib.hid gg
       have H16 := Lib.hid (mm.below hB.out hWg hB.out.size)
       have Q16 := Lib.hid ((mm.block q (blk_lt hQ.out) hqg0).trans hQ.out)
       have X16 := Lib.hid ((mm.block gx (blk_lt hX.out) hxg).trans hX.out)
       have R16 := Lib.hid (ro_mod hR.out hG.out (tyN (by decide)) (fun k hk hn => mm.block k hk hn))
       clear gg mm hG hX hQ hB C10 hR
       obtain ⟨-, -, k2⟩ := rd_cells G16.out
       cases bF
       ·have hR3 := HR3.out
        rw [if_neg (by decide)] at hR3
        obtain ⟨cs, hcs, hR3⟩ := Option.bind_eq_some_iff.1 hR3
        have CS := Lib.hid (fun w => crc_Sum.calls (s.extract 0 aE.toNat) cs w hcs)
        have hA2 := hA.out
        have hA3 : aE ≤ (s.size : Int) := hA2.2
        have hA4 : 0 ≤ aE := hA2.1
        have HR4 := Lib.hid hR3
        clear HR3 hR3 hcs hA2
        go_wp2_with fail
        refine (CS.out _).mono ?_
        rintro e w17 ⟨rfl, hb⟩
        have G17 := Lib.hid (blk_below G16.out hb)
        have X17 := Lib.hid (blk_below X16.out hb)
        have Q17 := Lib.hid (blk_below Q16.out hb)
        have H17 := Lib.hid (below_step H16.out hb)
        have R17 := Lib.hid (Kd.R_below R16.out hb)
        clear hb CS G16 X16 Q16 H16 R16 hA3 hA4 k2
        by_cases hw : want = cs
        ·have hR4 := HR4.out
         rw [if_pos hw] at hR4
         have hR5 := Option.some.inj hR4
         have cw1 : decide (want = cs) = true := decide_eq_true hw
         have cw2 : (want == cs) = true := beq_iff_eq.2 hw
         have cw3 : (want != cs) = false := bne_eq_false_iff_eq.2 hw
         clear hw hR4 HR4
         rcases hS : segsG s out aF false with ⟨SG, aZ, bZ⟩
         unfold stGet3 at hR5
         rw [hS] at hR5
         dsimp only at hR5
         have HR5 := Lib.hid hR5
         have SS := Lib.hid hS
         have S17 : Hid (RS w17 W.heap.size (.slice none 0 0) []) := Lib.hid (Kd.R_nil _ _ _ _ _)
         clear hR5 hS
         go_wp2_with fail
         go_loopw [105] (fun i wr => ∃ (j : Nat) (a : Int) (bd : Bool) (out2 rest : List ByteArray) (A : Option Addr) (n : Nat), j ≤ out.length ∧ i = .int .i64 j ∧ Hid (segsG s (out.drop j) a bd = (rest, aZ, bZ)) ∧ Hid (out2 ++ rest = SG) ∧ Hid (out2.length = j) ∧ Hid (0 ≤ a ∧ a ≤ (s.size : Int)) ∧ Hid (RN wr W.heap.size (.slice Av out.length cv) out) ∧ Hid (RS wr W.heap.size (.slice A out2.length n) out2) ∧ Hid (wr.heap[g]? = some (.cells (rdC s a bd) TR_ (0, 0))) ∧ Hid (wr.heap[gx]? = some (.cells (stC ⟨c, b, z, f, t7, t8, out2⟩ A n) 86 (0, 0))) ∧ Hid (wr.heap[q]? = some (.cells (stC st0 none 0) 86 (0, 0))) ∧ Hid (Below W.heap.size W wr)) (fun i _ => out.length - (intOf i).toNat)
         case atStart => exact ⟨0, aF, false, [], SG, none, 0, by omega, rfl, SS, Lib.hid rfl, Lib.hid rfl, AF, R17, S17, G17, X17, Q17, H17⟩
         case round =>
          clear R17 S17 G17 X17 Q17 H17 SS
          obtain ⟨j, a, bd, out2, rest, A, n, hj, rfl, hT, hO, hol, hA5, hR, hS, hG, hX, hQ, hB⟩ := hrel
          by_cases hlt : j < out.length
          ·obtain ⟨ad, rfl, hx⟩ := cellN hR.out hlt
           obtain ⟨v, hv⟩ : ∃ v, v = out.getD j 0 := ⟨_, rfl⟩
           rw [← hv] at hx
           have hT2 := hT.out
           rw [drop_consI hlt, ← hv] at hT2
           unfold segsG at hT2
           rcases hK : takeF s a bd v with ⟨t, a', b'⟩
           rw [hK] at hT2
           dsimp only at hT2
           rcases hS3 : segsG s (out.drop (j + 1)) a' b' with ⟨r2, aY, bY⟩
           rw [hS3] at hT2
           dsimp only at hT2
           injection hT2 with e1 e2
           injection e2 with e2 e3
           subst e1 e2 e3
           have A' := Lib.hid (take_b hK hA5.out)
           have C11 := Lib.hid (fun W => take_r (g := g) hK hA5.out hs W)
           have T3 := Lib.hid hS3
           have O3 := Lib.hid (show (out2 ++ [t]) ++ r2 = SG by rw [List.append_assoc]; exact hO.out)
           clear hT hS3 hK hO hA5 hv
           go_wp2_with fail
           clear hx
           have X18 := Lib.hid (blk_drew hX.out)
           have G18 := Lib.hid (blk_drew hG.out)
           have Q18 := Lib.hid (blk_drew hQ.out)
           have H18 := Lib.hid (below_drew1 hB.out)
           have R18 := Lib.hid (Kd.R_drew hR.out)
           have S18 := Lib.hid (Kd.R_drew hS.out)
           refine start_ (n := 9) (S := fun w' => w'.heap[gx]? = some (.cells (stC ⟨c, b, z, f, t7, t8, out2⟩ A n) 86 (0, 0))) (ds := [8]) #[J,J,J,J,J,J,J,J,J] kr rfl rfl (blk_drew hX.out) (fun hHeld => ?_)
           refine with_tabW rS25_tab rS25_bits (fun HT_ HW_ => ?_)
           generalize wr.drew = w18 at X18 G18 Q18 H18 R18 S18 hHeld ⊢
           clear hX hG hQ hB hR hS
           refine pu_ 0 109 #[Y,J,J,J,J,J,J,J,J] HT_ ?_
           refine ta_ 1 110 #[Y,Y,J,J,J,J,J,J,J] HT_ HW_ hHeld rfl b59_ ?_
           refine pu_ 2 111 #[Y,Y,Y,J,J,J,J,J,J] HT_ ?_
           refine pu_ 3 112 #[Y,Y,Y,Y,J,J,J,J,J] HT_ ?_
           refine one_ (i := 4) (N := some 113) #[Y,Y,Y,Y,Y,J,J,J,J] rfl rfl (one_of HT_.out kr) (by decide) (fun K hK => ?_)
           refine goes_ Tryz.func92 kr rfl #[.pointer (some ⟨g, 0, none⟩), .int .i64 v] (by rfl) rfl rfl b66_ ?_
           refine (C11.out _ G18.out).mono ?_
           rintro e w19 ⟨rfl, gg, mm⟩
           refine ⟨_, rfl, ?_⟩
           have G19 := Lib.hid gg
           have H19 := Lib.hid (mm.below H18.out hWg H18.out.size)
           have Q19 := Lib.hid ((mm.block q (blk_lt Q18.out) hqg0).trans Q18.out)
           have X19 := Lib.hid ((mm.block gx (blk_lt X18.out) hxg).trans X18.out)
           have R19 := Lib.hid (ro_mod R18.out G18.out (tyN (by decide)) (fun k hk hn => mm.block k hk hn))
           have S19 := Lib.hid (ro_mod S18.out G18.out (tyS (by decide)) (fun k hk hn => mm.block k hk hn))
           clear gg mm G18 H18 Q18 X18 R18 S18 C11
           refine hK.out _ _ (X19.out) (fun hHeld => ?_)
           clear hK K
           refine norm_ (a' := ?_) ?_ ?_
           rotate_left
           ·show Act.put _ (some 113) _ = _
            exact pT
           refine one_ (i := 5) (N := some 114) #[Y,Y,Y,Y,Y,Y,J,J,J] rfl rfl (one_of HT_.out kr) (by decide) (fun K hK => ?_)
           refine value_ (w1 := w19.alloc (.cells #[.string t] 9)) (v := .slice (some ⟨w19.heap.size, 0, none⟩) 1 1) (by rfl) rfl (by go_simp; try (constructor <;> rfl)) ?_
           refine hK.out _ _ (blk_alloc X19.out _) (fun hHeld => ?_)
           clear hK K
           refine norm_ (a' := ?_) ?_ ?_
           rotate_left
           ·show Act.put _ (some 114) _ = _
            exact pT
           refine one_ (i := 6) (N := some 115) #[Y,Y,Y,Y,Y,Y,Y,J,J] rfl rfl (one_of HT_.out kr) (by decide) (fun K hK => ?_)
           refine Kd.R_append_step Kd.string (w0 := W) (W := w19) W.heap.size (by rfl) (.tmp 110) (.tmp 114) 84 9 (.string ⟨#[]⟩) 16 rfl Tryz.underlying84 infoS rfl (by decide) (by omega) (.slice A out2.length n) out2 t [.string t] (fun _ => True) (fun _ => False) rfl rfl ?aP (fun _ hk => hk.elim) ?aF ?aO ?aB ?aS ?aL ?_
           (case aP => exact rfl)
           (case aF => exact (fun _ _ => trivial))
           (case aO => exact S19.out)
           (case aB => exact H19.out)
           (case aS => exact H19.out.size)
           (case aL => have := hol.out; omega)
           intro v1 w20 ho hb hg hat
           have G20 := Lib.hid (blk_grown G19.out hg (Kd.R_ne S19.out G19.out (by decide)))
           have X20 := Lib.hid (blk_grown X19.out hg (Kd.R_ne S19.out X19.out (by decide)))
           have Q20 := Lib.hid (blk_grown Q19.out hg (Kd.R_ne S19.out Q19.out (by decide)))
           have H20 := Lib.hid hb
           have R20 : Hid (RN w20 W.heap.size (.slice (some ad) out.length cv) out) := Lib.hid (Kd.R_over' R19.out (Kd.R_typed S19.out) (tyN (by decide)) hg)
           obtain ⟨A5, c5, rfl⟩ := Kd.R_slice ho
           have S20 := Lib.hid ho
           clear ho hb hg hat G19 X19 Q19 H19 R19 S19
           refine hK.out _ _ X20.out (fun hHeld => ?_)
           clear hK K
           refine norm_ (a' := ?_) ?_ ?_
           rotate_left
           ·show Act.put _ (some 115) _ = _
            exact pT
           refine pu_ 7 116 #[Y,Y,Y,Y,Y,Y,Y,Y,J] HT_ ?_
           have f6 := blk_frozen X20.out 6
           obtain ⟨-, -, -, -, -, -, k6⟩ := st_cells X20.out
           have z20 := blk_lt X20.out
           refine last_ (i := 8) (N := none) #[Y,Y,Y,Y,Y,Y,Y,Y,Y] rfl rfl kr (by decide) (fun K hK => ?_)
           refine skip_ (w1 := (w20.setCell ⟨gx, 6, none⟩ (.slice A5 (out2 ++ [t]).length c5))) (by rfl) rfl (by go_simp; try rfl) ?_
           refine hK.out _ _ ?_
           clear hK K
           refine done_ (done_of HT_.out kr) ?_
           clear hHeld
           have X21 := Lib.hid ((blk_set X20.out 6 (.slice A5 (out2 ++ [t]).length c5)).trans (show _ = some (Obj.cells (stC ⟨c, b, z, f, t7, t8, out2 ++ [t]⟩ A5 c5) 86 (0, 0)) from rfl))
           have G21 := Lib.hid (blk_far (p := ⟨gx, 6, none⟩) G20.out (Ne.symm hxg) (.slice A5 (out2 ++ [t]).length c5))
           have Q21 := Lib.hid (blk_far (p := ⟨gx, 6, none⟩) Q20.out hqx (.slice A5 (out2 ++ [t]).length c5))
           have H21 : Hid (Below W.heap.size W (w20.setCell ⟨gx, 6, none⟩ (.slice A5 (out2 ++ [t]).length c5))) := Lib.hid (below_set H20.out hWx)
           have R21 : Hid (RN (w20.setCell ⟨gx, 6, none⟩ (.slice A5 (out2 ++ [t]).length c5)) W.heap.size (.slice (some ad) out.length cv) out) := Lib.hid (ro_mod R20.out X20.out (tyN (by decide)) (fun k hk hn => Below.heap_setCell w20 ⟨gx, 6, none⟩ (.slice A5 (out2 ++ [t]).length c5) k hn))
           have S21 : Hid (RS (w20.setCell ⟨gx, 6, none⟩ (.slice A5 (out2 ++ [t]).length c5)) W.heap.size (.slice A5 (out2 ++ [t]).length c5) (out2 ++ [t])) := Lib.hid (ro_mod S20.out X20.out (tyS (by decide)) (fun k hk hn => Below.heap_setCell w20 ⟨gx, 6, none⟩ (.slice A5 (out2 ++ [t]).length c5) k hn))
           clear f6 k6 z20 X20 G20 Q20 H20 R20 S20
           generalize (w20.setCell ⟨gx, 6, none⟩ (.slice A5 (out2 ++ [t]).length c5)) = w21 at X21 G21 Q21 H21 R21 S21 ⊢
           go_wp2_with fail
           exact ⟨⟨j + 1, a', b', out2 ++ [t], r2, A5, c5, by omega, by go_num, T3, O3, Lib.hid (by rw [List.length_append, hol.out]; rfl), A', R21, S21, G21, X21, Q21, H21⟩, by simp [intOf]; omega⟩
          ·obtain rfl : j = out.length := by omega
           have hT2 := hT.out
           rw [List.drop_length] at hT2
           unfold segsG at hT2
           injection hT2 with e1 e2
           injection e2 with e2 e3
           subst e1 e2 e3
           have hO2 := hO.out
           rw [List.append_nil] at hO2
           subst hO2
           clear hT hO hlt
           obtain ⟨-, j1, k2⟩ := rd_cells hG.out
           cases bd
           ·have hR6 := HR5.out
            rw [if_neg (by decide)] at hR6
            clear HR5
            by_cases hz : a = (s.size : Int)
            ·rw [if_pos hz] at hR6
             obtain rfl := hR6
             have z1 : decide (a = (s.size : Int)) = true := decide_eq_true hz
             have z2 : (a == (s.size : Int)) = true := beq_iff_eq.2 hz
             have z3 : (a != (s.size : Int)) = false := bne_eq_false_iff_eq.2 hz
             clear hz
             have ld := Agg.load_all (P := Tryz.prog) hX.out 86 _ Tryz.underlying86 rfl kr
             have sq := store_st hQ.out ⟨c, b, z, f, t7, t8, out2⟩ A n
             go_wp2_with fail
             have S9 := ro_mod (w' := wr.setRow q (stC ⟨c, b, z, f, t7, t8, out2⟩ A n)) hS.out hQ.out (tyS (by decide)) (fun k hk hn => setRow_other _ _ _ _ hn)
             exact bodyPost_ret (results_ct rfl _ _ q 86 (stC ⟨c, b, z, f, t7, t8, out2⟩ A n) (0, 0) _ rfl (Agg.blk_row hQ.out _) Tryz.underlying86 rfl kr) rfl ⟨A, n, rfl, (Kd.R_reads' S9).2.2, (Kd.R_reads' S9).2.1, Agg.below_row hB.out hWq _⟩
            ·rw [if_neg hz] at hR6
             obtain rfl := hR6
             have z1 : decide (a = (s.size : Int)) = false := decide_eq_false hz
             have z2 : (a == (s.size : Int)) = false := beq_eq_false_iff_ne.2 hz
             have z3 : (a != (s.size : Int)) = true := bne_iff_ne.2 hz
             clear hz
             have sq := store_st hQ.out st0 none 0
             go_wp2_with fail
             exact bodyPost_ret (results_ct rfl _ _ q 86 (stC st0 none 0) (0, 0) _ rfl (Agg.blk_row hQ.out _) Tryz.underlying86 rfl kr) rfl ⟨none, 0, rfl, c_nil _ _, Nat.le_refl _, Agg.below_row hB.out hWq _⟩
           ·have hR6 := HR5.out
            rw [if_pos rfl] at hR6
            obtain rfl := hR6
            clear HR5
            have sq := store_st hQ.out st0 none 0
            go_wp2_with fail
            exact bodyPost_ret (results_ct rfl _ _ q 86 (stC st0 none 0) (0, 0) _ rfl (Agg.blk_row hQ.out _) Tryz.underlying86 rfl kr) rfl ⟨none, 0, rfl, c_nil _ _, Nat.le_refl _, Agg.below_row hB.out hWq _⟩
        ·have hR4 := HR4.out
         rw [if_neg hw] at hR4
         obtain rfl := Option.some.inj hR4
         have cw1 : decide (want = cs) = false := decide_eq_false hw
         have cw2 : (want == cs) = false := beq_eq_false_iff_ne.2 hw
         have cw3 : (want != cs) = true := bne_iff_ne.2 hw
         clear hw hR4 HR4
         have sq := store_st Q17.out st0 none 0
         go_wp2_with fail
         exact bodyPost_ret (results_ct rfl _ _ q 86 (stC st0 none 0) (0, 0) _ rfl (Agg.blk_row Q17.out _) Tryz.underlying86 rfl kr) rfl ⟨none, 0, rfl, c_nil _ _, Nat.le_refl _, Agg.below_row H17.out hWq _⟩
       ·have hR3 := HR3.out
        rw [if_pos rfl] at hR3
        obtain rfl := Option.some.inj hR3
        have sq := store_st Q16.out st0 none 0
        go_wp2_with fail
        exact bodyPost_ret (results_ct rfl _ _ q 86 (stC st0 none 0) (0, 0) _ rfl (Agg.blk_row Q16.out _) Tryz.underlying86 rfl kr) rfl ⟨none, 0, rfl, c_nil _ _, Nat.le_refl _, Agg.below_row H16.out hWq _⟩
   ·have hR := HH.out
    rw [if_pos rfl] at hR
    obtain rfl := Option.some.inj hR
    clear hR
    have sq := store_st Q13.out st0 none 0
    go_wp2_with fail
    exact bodyPost_ret (results_ct rfl _ _ q 86 (stC st0 none 0) (0, 0) _ rfl (Agg.blk_row Q13.out _) Tryz.underlying86 rfl kr) rfl ⟨none, 0, rfl, c_nil _ _, Nat.le_refl _, Agg.below_row H13.out hWq _⟩
  ·rw [if_neg hn] at h
   obtain rfl := Option.some.inj h
   have n1 : (t0.toList == ([68, 83, 67, 84] : List UInt8)) = false := beq_eq_false_iff_ne.2 hn
   have n2 : (t0.toList != ([68, 83, 67, 84] : List UInt8)) = true := bne_iff_ne.2 hn
   clear hn h
   go_enter Tryz.func37, Tryz.ntmps37
   go_wp2_with fail
   rw [← EW.out]
   simp only [← EQ.out]
   simp only [← EG.out]
   have hqg0 : q ≠ g := by omega
   refine (C0.out _ G2.out).mono ?_
   rintro e w3 ⟨rfl, gg, mm⟩
   have G3 := Lib.hid gg
   have H3 := Lib.hid (mm.below H2.out hWg H2.out.size)
   have Q3 := Lib.hid ((mm.block q (blk_lt Q2.out) hqg0).trans Q2.out)
   clear gg mm G2 H2 Q2 C0
   have sq := store_st Q3.out st0 none 0
   go_wp2_with fail
   exact bodyPost_ret (results_ct rfl _ _ q 86 (stC st0 none 0) (0, 0) _ rfl (Agg.blk_row Q3.out _) Tryz.underlying86 rfl kr) rfl ⟨none, 0, rfl, c_nil _ _, Nat.le_refl _, Agg.below_row H3.out hWq _⟩
end Go.Proofs.YtnoibcdojfnicaaGreatDoor.PG
