/- A part of the proof of a law of descanttop: this session's own texts and printed texts, shortened and joined. -/
import Derived.Test.YtnoibcdojfnicaaGreatDoorE14
import Derived.Test.YtnoibcdojfnicaaGreatDoorE21
import Derived.Test.YtnoibcdojfnicaaGreatDoorE22
set_option linter.unusedVariables false
set_option linter.unusedSimpArgs false
set_option maxRecDepth 100000
set_option maxHeartbeats 16000000
namespace Go.Proofs.YtnoibcdojfnicaaGreatDoor.PB
open Go.Proofs.YtnoibcdojfnicaaGreatDoorW.Short
open Bool renaming true → Y, false → J
open Go Go.RowKit Go.Proofs.YtnoibcdojfnicaaGreatDoorW.PrintWords Go.Proofs.YtnoibcdojfnicaaGreatDoorW.PrintMore Go.Proofs.YtnoibcdojfnicaaGreatDoorW.PrintLast
open Go.Proofs.YtnoibcdojfnicaaGreatDoor.PTp (Mdl T3 mayM there3 there3_iff inCtx chanceF learnF mP_c mLearn_c learn_may mNew mNew_c load_int store_int t3_load t3_store t3_one t3_cells dot_range)
attribute [-go_sem] Instr.loadAt Instr.storeAt Instr.build
attribute [local go_sem] load_int store_int load_ints store_ints
def wBT : Bool × List (List Nat × List Nat) := (true, [([], []), ([0], [0]), ([1], [1]), ([], []), ([], []), ([2, 3, 4], [2, 3, 4])])
def wBB : List Nat := [0, 1, 3, 0, 0, 31]
theorem wB_tab : rtab .any (opsOf Tryz.f130 4) = wBT := by kernel_rfl
theorem wB_bits : waitsOk wBT.2 wBB = true := by kernel_rfl
abbrev TW_ : TypeId := 144
def coOf (R : Int × Int × ByteArray) : Array Value := if R.2.2.size ≤ 65536 then coC R.1 R.2.1 R.2.2 else coC 0 0 ⟨#[]⟩
def erOf (R : Int × Int × ByteArray) : Int := if R.2.2.size ≤ 65536 then 0 else 400
theorem coOf_size (R : Int × Int × ByteArray) : (coOf R).size = 3 := by unfold coOf; split <;> rfl
theorem coOf_one (R : Int × Int × ByteArray) : (coOf R).all (·.oneCell') = true := by unfold coOf; split <;> simp [coC, Value.oneCell']
theorem coOf_info (R : Int × Int × ByteArray) : (Tryz.prog.info? 31).map (·.size) = some (coOf R).size := by rw [coOf_size]; kernel_rfl
section
variable {w : World} {g : Nat} {T : TypeId} {m : Mdl} {b : Int} {v : Value} {rest : Array Value}
theorem st_coder (h : w.heap[g]? = some (.cells (stC m b v rest) T (0, 0))) (hr : rest.size = 3) : (Instr.loadAt 31 (.pointer (some ⟨g, 197, none⟩))).run Tryz.prog w = .ok (.agg rest) w :=
 (Agg.load_part h 197 3 31 _ b82_ Tryz.underlying31 rfl kr).trans (by
  congr 2
  apply Array.ext_getElem?
  intro i
  by_cases a : i < 3
  ·rw [Array.getElem?_extract, if_pos b82_, stC_r]
  ·rw [Array.getElem?_eq_none (by simp [stC_size]; omega), Array.getElem?_eq_none (by omega)])
theorem st_setCoder (h : w.heap[g]? = some (.cells (stC m b v rest) T (0, 0))) (hr : rest.size = 3) (R : Int × Int × ByteArray) : (Instr.storeAt 31 (.pointer (some ⟨g, 197, none⟩)) (.agg (coOf R))).run Tryz.prog w = .ok () (w.setCells g 197 (coOf R).toList) := by
 refine run_storeAt_mid (P := Tryz.prog) w g 197 31 (coOf R) ?_ (coOf_info R) (coOf_one R)
 intro j hj
 rw [coOf_size] at hj
 refine ⟨?_, blk_frozen h (197 + j)⟩
 rw [blk_cell h (197 + j), stC_r, Array.getElem?_eq_getElem (by omega)]
 rfl
theorem st_coder_heap (h : w.heap[g]? = some (.cells (stC m b v rest) T (0, 0))) (hr : rest.size = 3) (R : Int × Int × ByteArray) : (w.setCells g 197 (coOf R).toList).heap[g]? = some (.cells (stC m b v (coOf R)) T (0, 0)) :=
 (setCells_heap _ 197 w _ h).trans (by rw [stC_setr _ _ _ _ _ (by rw [coOf_size, hr])])
end
theorem co_new_store (w : World) (R : Int × Int × ByteArray) : (Instr.storeAt 31 (.pointer (some ⟨w.heap.size, 0, none⟩)) (.agg (coOf R))).run Tryz.prog (w.alloc (.cells #[.int .i64 0, .int .i64 0, .string ⟨#[]⟩] 31 (0, 0))) = .ok () (w.alloc (.cells (coOf R) 31 (0, 0))) :=
 run_storeAt_new w 31 #[.int .i64 0, .int .i64 0, .string ⟨#[]⟩] (coOf R) (coOf_info R) (by rw [coOf_size]; rfl) (coOf_one R)
theorem co_new_load (w : World) (R : Int × Int × ByteArray) : (Instr.loadAt 31 (.pointer (some ⟨w.heap.size, 0, none⟩))).run Tryz.prog (w.alloc (.cells (coOf R) 31 (0, 0))) = .ok (.agg (coOf R)) (w.alloc (.cells (coOf R) 31 (0, 0))) :=
 Agg.load_all (blk_new w _) 31 _ Tryz.underlying31 rfl (coOf_info R)
theorem t3_new_store (w : World) (t : T3) : (Instr.storeAt 26 (.pointer (some ⟨w.heap.size, 0, none⟩)) (.agg t.c)).run Tryz.prog (w.alloc (.cells #[.int .i64 0, .int .i64 0, .int .i64 0] 26 (0, 0))) = .ok () (w.alloc (.cells t.c 26 (0, 0))) :=
 run_storeAt_new w 26 #[.int .i64 0, .int .i64 0, .int .i64 0] t.c kr rfl (t3_one t)
theorem wBit_c (g B : Nat) (m : Mdl) (b : Int) (v : Value) (bs : List Int) (lo hi : Int) (o : ByteArray) (bit : Int) (W w0 : World) (hw0 : Extra.Laid w0) (hwW : Below w0.heap.size w0 W) (hwg : w0.heap.size ≤ g) (hM : mayM m) (hB_ : bit = 0 ∨ bit = 1) (hO : coOk lo hi o) (hg : W.heap[g]? = some (.cells (stC m b v (coC lo hi o)) TW_ (0, 0))) (hr : RI W B v bs) (hl : bs.length ≤ 1000) (hgB : g < B) (hBW : B ≤ W.heap.size) : Calls Tryz.prog 130 #[.pointer (some ⟨g, 0, none⟩), .int .i64 bit] W fun e w' => e = .returned (.int .i64 (erOf (bitF lo hi o bit (chanceF m (ctxT b bs))))) ∧ ∃ v', w'.heap[g]? = some (.cells (stC (learnF m (ctxT b bs) bit) b v' (coOf (bitF lo hi o bit (chanceF m (ctxT b bs))))) TW_ (0, 0)) ∧ RI w' B v' (bs ++ [bit]) ∧ Mod g B W w' := by
 have HT0 := Lib.hid (hw0.below_ hwW)
 have HW0 := Lib.hid hw0
 have HWW := Lib.hid hwW
 clear hw0 hwW
 have HM := Lib.hid hM
 have HO := Lib.hid hO
 have HC := Lib.hid (ctxT_there b bs)
 have HBit := Lib.hid hB_
 have hp := dot_range m.w (PTp.inputsF m (ctxT b bs))
 obtain ⟨ctx, hctx⟩ : ∃ ctx, ctx = ctxT b bs := ⟨_, rfl⟩
 have SC := Lib.hid (stChance_c g B m b v bs (coC lo hi o) TW_ W HT0.out hM hg hr hl)
 rw [← hctx] at SC HC hp ⊢
 clear hctx
 have hp2 : 1 ≤ chanceF m ctx ∧ chanceF m ctx ≤ 4095 := hp
 obtain ⟨p, hpp⟩ : ∃ p, p = chanceF m ctx := ⟨_, rfl⟩
 rw [← hpp] at SC hp2 ⊢
 clear hpp hp
 obtain ⟨R, hR⟩ : ∃ R, R = bitF lo hi o bit p := ⟨_, rfl⟩
 have BC := Lib.hid (fun w => bit_c lo hi o bit p w hO hB_ hp2.1 hp2.2)
 rw [← hR] at BC ⊢
 replace BC : Hid (∀ w, Calls Tryz.prog 14 #[.agg (coC lo hi o), .int .i64 bit, .int .i64 p] w fun e w' => e = .returned (.tuple #[.agg (coOf R), .int .i64 (erOf R)]) ∧ Below w.heap.size w w') := BC
 clear hR hp2
 obtain ⟨er, her⟩ : ∃ er, er = erOf R := ⟨_, rfl⟩
 rw [← her] at BC ⊢
 clear her
 have GW := Lib.hid hg
 have RW := Lib.hid hr
 clear hM hg hr hB_ hO
 go_enter Tryz.func130, Tryz.ntmps130
 go_wp2_with fail
 refine SC.out.mono ?_
 rintro e w1 ⟨rfl, hb⟩
 have G1 := Lib.hid (blk_below GW.out hb)
 have R1 := Lib.hid (Kd.R_below RW.out hb)
 have H1 := Lib.hid hb
 have z1 : B ≤ w1.heap.size := by have := hb.size; omega
 clear hb SC GW RW
 have ts := fun w => t3_new_store w ctx
 have lc := st_coder (blk_alloc G1.out (.cells ctx.c 26)) rfl
 go_wp2_with fail
 clear ts lc
 have G2 := Lib.hid (blk_alloc G1.out (.cells ctx.c 26))
 have N2 := Lib.hid (blk_new w1 (.cells ctx.c 26))
 have R2 := Lib.hid (Kd.R_alloc R1.out (.cells ctx.c 26))
 have H2 := Lib.hid (below_alloc H1.out (.cells ctx.c 26))
 obtain ⟨n6, hn6⟩ : ∃ n6, n6 = w1.heap.size := ⟨_, rfl⟩
 rw [← hn6] at N2 ⊢
 have hn7 : B ≤ n6 := by omega
 clear G1 R1 H1 hn6 z1
 generalize w1.alloc (.cells ctx.c 26) = w2 at G2 N2 R2 H2 ⊢
 refine (BC.out _).mono ?_
 rintro e w3 ⟨rfl, hb⟩
 have G3 := Lib.hid (blk_alloc (blk_below G2.out hb) (.cells (coOf R) 31))
 have N3 := Lib.hid (blk_alloc (blk_below N2.out hb) (.cells (coOf R) 31))
 have R3 := Lib.hid (Kd.R_alloc (Kd.R_below R2.out hb) (.cells (coOf R) 31))
 have H3 := Lib.hid (below_alloc (below_step H2.out hb) (.cells (coOf R) 31))
 clear hb BC G2 N2 R2 H2
 have cs := fun w => co_new_store w R
 have cl := fun w => co_new_load w R
 have sc := st_setCoder G3.out rfl R
 go_wp2_with fail
 clear cs cl sc
 have G5 := Lib.hid (st_coder_heap G3.out rfl R)
 have N5 := Lib.hid ((cells_far (coOf R).toList 197 _ n6 (show n6 ≠ g by omega)).trans N3.out)
 have R5 := Lib.hid (ri_mod R3.out G3.out (by decide) (cells_far (coOf R).toList 197 _))
 have M5 := Lib.hid ((Mod.of H3.out hBW).trans (Mod.cells g B (coOf R).toList 197 _))
 clear G3 N3 R3 H3
 generalize (w3.alloc (.cells (coOf R) 31)).setCells g 197 (coOf R).toList = w5 at G5 N5 R5 M5 ⊢
 have G6 := Lib.hid (blk_drew G5.out)
 have N6 := Lib.hid (blk_drew N5.out)
 have R6 := Lib.hid (Kd.R_drew R5.out)
 have M6 := Lib.hid (M5.out.trans (Mod.of2 (below_drew1 (Below.refl _ _))))
 refine start_ (n := 6) (S := fun w' => w'.heap[n6]? = some (.cells ctx.c 26 (0, 0))) (ds := [5]) #[J,J,J,J,J,J] kr rfl rfl (blk_drew N5.out) (fun hHeld => ?_)
 refine with_tabW wB_tab wB_bits (fun HT_ HW_ => ?_)
 generalize w5.drew = w6 at G6 N6 R6 M6 hHeld ⊢
 clear G5 N5 R5 M5
 refine pu_ 0 30 #[Y,J,J,J,J,J] HT_ ?_
 refine pu_ 1 31 #[Y,Y,J,J,J,J] HT_ ?_
 refine pu_ 2 32 #[Y,Y,Y,J,J,J] HT_ ?_
 refine ta_ 3 33 #[Y,Y,Y,Y,J,J] HT_ HW_ hHeld rfl (by rintro w' s0; have ld := t3_load s0; go_simp; with_reducible rfl) ?_
 refine pu_ 4 34 #[Y,Y,Y,Y,Y,J] HT_ ?_
 refine last_ (i := 5) (N := some 35) #[Y,Y,Y,Y,Y,Y] rfl rfl kr (by decide) (fun K hK => ?_)
 refine goes_ Tryz.func156 kr rfl #[.pointer (some ⟨g, 0, none⟩), .agg ctx.c, .int .i64 bit] (by rfl) rfl rfl b66_ ?_
 refine (stLearn_c g B m b v bs (coOf R) TW_ ctx bit _ (by decide) (HW0.out.below_ (Mod.below M6.out HWW.out hwg (by omega))) HM.out HC.out HBit.out G6.out R6.out hl hgB (by have := M6.out.size; omega)).mono ?_
 rintro e w7 ⟨rfl, v7, g7, r7, m7⟩
 refine ⟨_, rfl, ?_⟩
 refine hK.out _ _ ?_
 clear hK K
 refine norm_ (a' := ?_) ?_ ?_
 rotate_left
 ·show Act.put _ (some 35) _ = _
  exact pT
 refine done_ (done_of HT_.out kr) ?_
 clear hHeld
 go_wp2_with fail
 go_ret
 exact ⟨rfl, v7, g7, r7, M6.out.trans m7⟩
theorem gTail_bits (v : Int) (n : Nat) : ∀ k, ∀ x ∈ gTail v n k, x = 0 ∨ x = 1
 | 0, x, h => by simp [gTail] at h
 | k + 1, x, h => by
  unfold gTail at h
  rcases List.mem_append.1 h with h | h
  ·exact gTail_bits v n k x h
  ·rw [List.mem_singleton.1 h]; omega
theorem gBits_bits (u : Int) : ∀ x ∈ gBits u, x = 0 ∨ x = 1 := fun x h => by
 unfold gBits at h
 rcases List.mem_append.1 h with h | h
 ·rcases List.mem_append.1 h with h | h
  ·exact Or.inr (List.eq_of_mem_replicate h)
  ·exact Or.inl (List.mem_singleton.1 h)
 ·exact gTail_bits _ _ _ x h
theorem allB_of {bs : List Int} (h : ∀ x ∈ bs, x = 0 ∨ x = 1) : allB bs = true := List.all_eq_true.2 (fun x hx => decide_eq_true (h x hx))
theorem stNext_c (g B : Nat) (m : Mdl) (b : Int) (v : Value) (bs : List Int) (rest : Array Value) (T : TypeId) (W : World) (hg : W.heap[g]? = some (.cells (stC m b v rest) T (0, 0))) (hr : RI W B v bs) (hl : bs.length ≤ 1000) (hA : allB bs = true) : Calls Tryz.prog 131 #[.pointer (some ⟨g, 0, none⟩)] W fun e w' => e = .returned (.tuple #[]) ∧ w'.heap[g]? = some (.cells (stC m (ones bs : Int) (.slice none 0 0) rest) T (0, 0)) ∧ ∀ B', Mod g B' W w' := by
 obtain ⟨A_, c_, rfl, hc_, hC_⟩ := Kd.R_reads hr
 have G1 := Lib.hid hg
 have HA := Lib.hid (gamma_bits bs (by omega) hA)
 have OC := Lib.hid (gamma_Ones.calls (bs.length + 1) A_ c_ bs (ones bs : Int) (decide (ones bs < bs.length)) W hC_ hc_ HA.out)
 obtain ⟨k1, k2⟩ := st_cells hg
 clear hg hr hC_ HA
 go_enter Tryz.func131, Tryz.ntmps131
 go_wp2_with fail
 refine OC.out.mono ?_
 rintro e w2 ⟨rfl, hd⟩
 clear k1 k2 OC
 have G2 := Lib.hid (blk_below G1.out hd.below)
 have M2 := Lib.hid (show ∀ B', Mod g B' W w2 from fun B' => by obtain ⟨nd, rfl⟩ := hd.out; exact ⟨by simp [World.drewN], by simp [World.drewN], by simp [World.drewN], Nat.le_refl _, fun _ _ _ => rfl⟩)
 clear G1 hd
 obtain ⟨k1, k2⟩ := st_cells G2.out
 have f1 := blk_frozen G2.out 195
 have f2 := blk_frozen G2.out 196
 have z : g < w2.heap.size := blk_lt G2.out
 go_wp2_with fail
 have G3 := (blk_set G2.out 195 (.int .i64 (ones bs : Int))).trans (by rw [stC_setb])
 have G4 := (blk_set G3 196 (.slice none 0 0)).trans (by rw [stC_setv])
 go_end0
 exact ⟨rfl, G4, fun B' => ((M2.out B').trans (Mod.cell g B' 195 _ _)).trans (Mod.cell g B' 196 _ _)⟩
structure Ws where
 m : Mdl
 b : Int
 lo : Int
 hi : Int
 o : ByteArray
def Ws.c (s : Ws) (v : Value) : Array Value := stC s.m s.b v (coC s.lo s.hi s.o)
def Ws.may (s : Ws) : Prop := mayM s.m ∧ coOk s.lo s.hi s.o
def Ws.bit (s : Ws) (bs : List Int) (x : Int) : Ws := let R := bitF s.lo s.hi s.o x (chanceF s.m (ctxT s.b bs)); ⟨learnF s.m (ctxT s.b bs) x, s.b, R.1, R.2.1, R.2.2⟩
def bitsRun : List Int → List Int → Ws → Option Ws
 | [], _, s => some s
 | x :: r, bs, s => if (s.bit bs x).o.size ≤ 65536 then bitsRun r (bs ++ [x]) (s.bit bs x) else none
def foldU (x : Int) : Int := if x < 0 then -2 * x - 1 else 2 * x
def numRun (x : Int) (s : Ws) : Option Ws := if -16777216 ≤ x ∧ x ≤ 16777216 then (bitsRun (gBits (foldU x)) [] s).map fun t => ⟨t.m, (ones (gBits (foldU x)) : Int), t.lo, t.hi, t.o⟩ else none
theorem shift_end : ∀ (k j : Nat) (lo hi : Int) (o : ByteArray), j + k = 4 → gones j lo hi → 0 ≤ (shiftF k lo hi o).1 ∧ (shiftF k lo hi o).2.1 ≤ 4294967295 ∧ (shiftF k lo hi o).1 / 16777216 < (shiftF k lo hi o).2.1 / 16777216
 | 0, j, lo, hi, o, h, hg => by
  obtain rfl : j = 4 := by omega
  unfold gones at hg
  unfold shiftF
  simp only
  omega
 | k + 1, j, lo, hi, o, h, hg => by
  unfold shiftF
  by_cases e : lo / 16777216 = hi / 16777216
  ·rw [if_pos e]
   exact shift_end k (j + 1) _ _ _ (by omega) (gones_step hg e).2
  ·rw [if_neg e]
   unfold gones at hg
   simp only
   omega
theorem bit_ok {lo hi : Int} {o : ByteArray} {x p : Int} (h : coOk lo hi o) (p0 : 1 ≤ p) (p1 : p ≤ 4095) (hs : (bitF lo hi o x p).2.2.size ≤ 65536) : coOk (bitF lo hi o x p).1 (bitF lo hi o x p).2.1 (bitF lo hi o x p).2.2 := by
 obtain ⟨h0, h1, h2, h3⟩ := h
 have mi := mid_in (show lo ≤ hi by omega) p0 p1
 rw [if_neg (by omega)] at mi
 refine ⟨?_, ?_, ?_, hs⟩ <;> unfold bitF <;> split
 ·exact (shift_end 4 0 _ _ _ rfl ⟨h0, by omega, by omega, Or.inl rfl⟩).1
 ·exact (shift_end 4 0 _ _ _ rfl ⟨by omega, by omega, h1, Or.inl rfl⟩).1
 ·exact (shift_end 4 0 _ _ _ rfl ⟨h0, by omega, by omega, Or.inl rfl⟩).2.1
 ·exact (shift_end 4 0 _ _ _ rfl ⟨by omega, by omega, h1, Or.inl rfl⟩).2.1
 ·exact (shift_end 4 0 _ _ _ rfl ⟨h0, by omega, by omega, Or.inl rfl⟩).2.2
 ·exact (shift_end 4 0 _ _ _ rfl ⟨by omega, by omega, h1, Or.inl rfl⟩).2.2
theorem Ws.bit_may {s : Ws} {bs : List Int} {x : Int} (h : s.may) (hs : (s.bit bs x).o.size ≤ 65536) : (s.bit bs x).may := by
 have hp := dot_range s.m.w (PTp.inputsF s.m (ctxT s.b bs))
 exact ⟨learn_may h.1, bit_ok h.2 hp.1 hp.2 hs⟩
theorem run_step {xs : List Int} {k : Nat} {s : Ws} (hk : k < xs.length) : bitsRun (xs.drop k) (xs.take k) s = if (s.bit (xs.take k) (rd xs (k : Int))).o.size ≤ 65536 then bitsRun (xs.drop (k + 1)) (xs.take (k + 1)) (s.bit (xs.take k) (rd xs (k : Int))) else none := by
 have e : rd xs (k : Int) = xs[k] := by simp [rd, hk]
 rw [List.drop_eq_getElem_cons hk, e]
 conv => lhs; unfold bitsRun
 rw [List.take_append_getElem hk]
theorem add_block (ad : Addr) (k : Nat) : (ad.add k).block = ad.block := by unfold Addr.add; split <;> rfl
theorem elem_mod {w2 wr : World} {A : Option Addr} {xs : List Int} {g : Nat} (hC : (Kd.int .i64).C w2 A xs.length xs) (hne : ∀ ad, A = some ad → ad.block ≠ g) (hM : Mod g w2.heap.size w2 wr) {k : Nat} (hk : k < xs.length) : ∃ ad, A = some ad ∧ wr.cell? (ad.add k) = some (.int .i64 (rd xs (k : Int))) := by
 obtain ⟨ad, e, hx⟩ := Kd.at_int hC (k : Int) (by omega) (by omega)
 rw [Int.toNat_natCast] at hx
 refine ⟨ad, e, ?_⟩
 have hlt := World.block_lt_of_cell? w2 _ hx
 rw [World.cell?_of_block (w := w2) (hM.block _ hlt (by rw [add_block]; exact hne ad e))]
 exact hx
theorem fold_yes {x : Int} (h : -16777216 ≤ x ∧ x ≤ 16777216) : fold_Put.f x = some (foldU x, 0) := by
 unfold fold_Put.f fold_Number.f foldU
 rw [if_pos (by omega), Option.bind_some, if_pos (decide_eq_true h.2)]
 by_cases c : x < 0
 ·rw [if_pos c, if_pos c, Num.w64 (n := -2 * x) (by omega) (by omega), Num.w64 (by omega) (by omega)]
 ·rw [if_neg c, if_neg c, Num.w64 (by omega) (by omega)]
theorem fold_no {x : Int} (h : ¬ (-16777216 ≤ x ∧ x ≤ 16777216)) : fold_Put.f x = some (0, 1000) := by
 unfold fold_Put.f fold_Number.f
 by_cases c : x ≥ -16777216
 ·rw [if_pos c, Option.bind_some, if_neg (by simpa using fun hh => h ⟨c, hh⟩)]
 ·rw [if_neg c, Option.bind_some, if_neg (by decide)]
theorem foldU_in {x : Int} (h : -16777216 ≤ x ∧ x ≤ 16777216) : 0 ≤ foldU x ∧ foldU x ≤ 33554432 := by
 unfold foldU; split <;> omega
theorem wNum_c (g : Nat) (s : Ws) (x : Int) (W w0 : World) (hw0 : Extra.Laid w0) (hwW : Below w0.heap.size w0 W) (hwg : w0.heap.size ≤ g) (hM : s.may) (hg : W.heap[g]? = some (.cells (s.c (.slice none 0 0)) TW_ (0, 0))) : Calls Tryz.prog 87 #[.pointer (some ⟨g, 0, none⟩), .int .i64 x] W fun e w' => e = .returned (.bool (numRun x s).isSome) ∧ Below w0.heap.size w0 w' ∧ ∀ t, numRun x s = some t → w'.heap[g]? = some (.cells (t.c (.slice none 0 0)) TW_ (0, 0)) := by
 have HW0 := Lib.hid hw0
 have HWW := Lib.hid hwW
 have HM := Lib.hid hM
 have GW := Lib.hid hg
 clear hw0 hwW hM hg
 by_cases hx : -16777216 ≤ x ∧ x ≤ 16777216
 ·have FC := Lib.hid (fun w => fold_Put.calls x (foldU x) 0 w (fold_yes hx))
  obtain ⟨u0, u1⟩ := foldU_in hx
  have HN := Lib.hid (show numRun x s = (bitsRun (gBits (foldU x)) [] s).map fun t => ⟨t.m, (ones (gBits (foldU x)) : Int), t.lo, t.hi, t.o⟩ by unfold numRun; rw [if_pos hx])
  obtain ⟨u, hu⟩ : ∃ u, u = foldU x := ⟨_, rfl⟩
  rw [← hu] at FC u0 u1 HN
  clear hu hx
  have GB := Lib.hid (fun w => gbits_c u w u0 u1)
  have GA := Lib.hid (gBits_bits u)
  have gl := gBits_len u
  have g3 := (gLen_in u0 u1).2.2.1
  obtain ⟨bits, hbits⟩ : ∃ bits, bits = gBits u := ⟨_, rfl⟩
  rw [← hbits] at GB HN GA gl
  clear hbits
  obtain ⟨N, hN⟩ : ∃ N, N = numRun x s := ⟨_, rfl⟩
  rw [← hN] at HN ⊢
  clear hN u0 u1
  have hl51 : bits.length ≤ 51 := by omega
  clear gl g3
  go_enter Tryz.func87, Tryz.ntmps87
  go_wp2_with fail
  refine (FC.out _).mono ?_
  rintro e w1 ⟨rfl, hd⟩
  have G1 := Lib.hid (blk_below GW.out hd.below)
  have H1 := Lib.hid (below_step HWW.out hd.below)
  clear hd FC
  go_wp2_with fail
  refine (GB.out _).mono ?_
  rintro e w2 ⟨vb, rfl, hr, hb⟩
  have G2 := Lib.hid (blk_below G1.out hb)
  have H2 := Lib.hid (below_step H1.out hb)
  have NE := Lib.hid (st_ne (show w2.heap[g]? = some (.cells (stC s.m s.b (.slice none 0 0) (coC s.lo s.hi s.o)) TW_ (0, 0)) from G2.out) (by decide) hr)
  obtain ⟨A_, c_, rfl, hc_, hC_⟩ := Kd.R_reads hr
  have HC := Lib.hid hC_
  have HNE := Lib.hid (show ∀ ad, A_ = some ad → ad.block ≠ g from fun ad e => by
   subst e
   intro h
   apply NE.out
   simp [Value.ownBlock, h])
  clear hr hb hC_ G1 H1 GB NE
  have gB : g < w2.heap.size := blk_lt G2.out
  have BB := Lib.hid H2.out.size
  obtain ⟨B, hB⟩ : ∃ B, B = w2.heap.size := ⟨_, rfl⟩
  go_wp2_with fail
  go_loopw [25] (fun i wr => ∃ (k : Nat) (t : Ws) (v : Value), k ≤ bits.length ∧ i = .int .i64 k ∧ Hid (bitsRun bits [] s = bitsRun (bits.drop k) (bits.take k) t) ∧ Hid t.may ∧ Hid (wr.heap[g]? = some (.cells (t.c v) TW_ (0, 0))) ∧ Hid (RI wr w2.heap.size v (bits.take k)) ∧ Hid (Mod g w2.heap.size w2 wr)) (fun i _ => bits.length - (intOf i).toNat)
  case atStart => exact ⟨0, s, .slice none 0 0, by omega, rfl, Lib.hid rfl, HM, G2, Lib.hid (Kd.R_nil _ _ _ _ _), Lib.hid (Mod.of2 (Below.refl _ _))⟩
  case round =>
   obtain ⟨k, t, v, hk, rfl, hT, ht, hG, hR, hMd⟩ := hrel
   by_cases hlt : k < bits.length
   ·obtain ⟨ad, rfl, hx⟩ := elem_mod HC.out HNE.out hMd.out hlt
    have hT2 := hT.out
    rw [run_step hlt] at hT2
    have hbit := GA.out (rd bits (k : Int)) (by have : rd bits (k : Int) = bits[k] := (by simp [rd, hlt]); rw [this]; exact List.getElem_mem hlt)
    obtain ⟨y, hy⟩ : ∃ y, y = rd bits (k : Int) := ⟨_, rfl⟩
    have hl2 : (bits.take k).length ≤ 1000 := by rw [List.length_take]; omega
    have WC := Lib.hid (wBit_c g w2.heap.size t.m t.b v (bits.take k) t.lo t.hi t.o y wr w0 HW0.out (Mod.below hMd.out H2.out hwg BB.out) hwg ht.out.1 (by rw [hy]; exact hbit) ht.out.2 hG.out hR.out hl2 gB hMd.out.size)
    have TK := Lib.hid (show bits.take (k + 1) = bits.take k ++ [y] by rw [hy, show rd bits (k : Int) = bits[k] by simp [rd, hlt]]; exact (List.take_append_getElem hlt).symm)
    rw [← hy] at hx hT2
    clear hy hbit
    obtain ⟨bk, hbk⟩ : ∃ bk, bk = bits.take k := ⟨_, rfl⟩
    rw [← hbk] at WC hT2 hR TK hl2
    clear hbk
    have RD := Lib.hid (show bitF t.lo t.hi t.o y (chanceF t.m (ctxT t.b bk)) = ((t.bit bk y).lo, (t.bit bk y).hi, (t.bit bk y).o) from rfl)
    have LD := Lib.hid (show learnF t.m (ctxT t.b bk) y = (t.bit bk y).m from rfl)
    have TB := Lib.hid (show (t.bit bk y).b = t.b from rfl)
    have WC2 := WC.out
    rw [RD.out, LD.out] at WC2
    have TM := Lib.hid (fun h => Ws.bit_may (bs := bk) (x := y) ht.out h)
    obtain ⟨t', ht'⟩ : ∃ t', t' = t.bit bk y := ⟨_, rfl⟩
    rw [← ht'] at WC2 TB TM hT2
    clear ht' RD LD WC hl2
    have HT2 := Lib.hid hT2
    clear hT2 hT
    by_cases hsz : t'.o.size ≤ 65536
    ·have E0 : erOf (t'.lo, t'.hi, t'.o) = 0 := if_pos hsz
     have C0 : coOf (t'.lo, t'.hi, t'.o) = coC t'.lo t'.hi t'.o := if_pos hsz
     rw [E0, C0] at WC2
     have WC3 := Lib.hid WC2
     have HT3 := Lib.hid (HT2.out.trans (if_pos hsz))
     have HTM := Lib.hid (TM.out hsz)
     clear E0 C0 WC2 HT2 TM hsz
     go_wp2_with fail
     refine WC3.out.mono ?_
     rintro e w4 ⟨rfl, v', hg', hr', hm'⟩
     have G4 := Lib.hid (show w4.heap[g]? = some (.cells (t'.c v') TW_ (0, 0)) from hg'.trans (by unfold Ws.c; rw [TB.out]))
     have R4 := Lib.hid hr'
     have M4 := Lib.hid (hMd.out.trans hm')
     clear hg' hr' hm' hG hR hMd WC3
     go_wp2_with fail
     exact ⟨⟨k + 1, t', v', by omega, by go_num, Lib.hid (by rw [HT3.out]), HTM, G4, by rw [TK.out]; exact R4, M4⟩, by simp [intOf]; omega⟩
    ·have E0 : erOf (t'.lo, t'.hi, t'.o) = 400 := if_neg hsz
     rw [E0] at WC2
     have WC3 := Lib.hid WC2
     have HN3 := Lib.hid (show N = none by rw [HN.out, HT2.out, if_neg hsz]; rfl)
     clear E0 WC2 HT2 TM hsz
     go_wp2_with fail
     refine WC3.out.mono ?_
     rintro e w4 ⟨rfl, v', hg', hr', hm'⟩
     have M4 := Lib.hid (hMd.out.trans hm')
     clear hg' hr' hm' hG hR hMd WC3
     go_wp2_with fail
     go_ret
     exact ⟨by rw [HN3.out]; rfl, Mod.below M4.out H2.out hwg BB.out, fun t ht => by rw [HN3.out] at ht; cases ht⟩
   ·obtain rfl : k = bits.length := by omega
    have hT2 := hT.out
    rw [List.drop_length, List.take_length] at hT2
    rw [List.take_length] at hR
    have HN3 := Lib.hid (show N = some ⟨t.m, (ones bits : Int), t.lo, t.hi, t.o⟩ by rw [HN.out, hT2]; rfl)
    clear hT2 hT
    go_wp2_with fail
    refine (stNext_c g w2.heap.size t.m t.b v bits (coC t.lo t.hi t.o) TW_ wr hG.out hR.out (by omega) (allB_of GA.out)).mono ?_
    rintro e w4 ⟨rfl, hg', hm'⟩
    have G4 := Lib.hid hg'
    have M4 := Lib.hid (hMd.out.trans (hm' w2.heap.size))
    clear hg' hm' hG hR hMd
    go_wp2_with fail
    go_ret
    exact ⟨by rw [HN3.out]; rfl, Mod.below M4.out H2.out hwg BB.out, fun t ht => by rw [HN3.out] at ht; cases ht; exact G4.out⟩
 ·have FC := Lib.hid (fun w => fold_Put.calls x 0 1000 w (fold_no hx))
  have HN := Lib.hid (show numRun x s = none by unfold numRun; rw [if_neg hx])
  obtain ⟨N, hN⟩ : ∃ N, N = numRun x s := ⟨_, rfl⟩
  rw [← hN] at HN ⊢
  clear hN hx
  go_enter Tryz.func87, Tryz.ntmps87
  go_wp2_with fail
  refine (FC.out _).mono ?_
  rintro e w1 ⟨rfl, hd⟩
  have H1 := Lib.hid (below_step HWW.out hd.below)
  clear hd FC
  go_wp2_with fail
  go_ret
  exact ⟨by rw [HN.out]; rfl, H1.out, fun t ht => by rw [HN.out] at ht; cases ht⟩
def allRun : List Int → Ws → Option Ws
 | [], s => some s
 | x :: r, s => (numRun x s).bind (allRun r)
def ws0 : Ws := ⟨mNew, 0, 0, 4294967295, ⟨#[]⟩⟩
def endF (s : Ws) : ByteArray := s.o ++ strOfNums [s.lo / 16777216 % 256, s.lo / 65536 % 256, s.lo / 256 % 256, s.lo % 256]
def residF (rs : List Int) : ByteArray × Int := if rs.length ≤ 256 then (match allRun rs ws0 with | some s => (endF s, 0) | none => (⟨#[]⟩, 1300)) else (⟨#[]⟩, 1300)
theorem bits_may : ∀ (xs bs : List Int) (s t : Ws), s.may → bitsRun xs bs s = some t → t.may
 | [], _, s, t, h, e => by simp only [bitsRun] at e; cases e; exact h
 | x :: r, bs, s, t, h, e => by
  unfold bitsRun at e
  by_cases c : (s.bit bs x).o.size ≤ 65536
  ·rw [if_pos c] at e
   exact bits_may r _ _ t (Ws.bit_may h c) e
  ·rw [if_neg c] at e; cases e
theorem num_may {x : Int} {s t : Ws} (h : s.may) (e : numRun x s = some t) : t.may := by
 unfold numRun at e
 split at e
 ·obtain ⟨u, hu, rfl⟩ := Option.map_eq_some_iff.1 e
  exact (bits_may _ _ _ _ h hu : u.may)
 ·cases e
theorem new_may : ws0.may := ⟨⟨fun j _ => by show PTp.countMay 32768 = true; decide, by decide⟩, by unfold coOk ws0; simp; decide⟩
theorem end_yes {s : Ws} (h : s.may) : PTp.coder_End.f s.lo s.hi s.o = some (endF s, 0) := by
 obtain ⟨_, h0, h1, h2, h3⟩ := h
 unfold PTp.coder_End.f PTp.coder_May.f PTp.coder_Ends.f
 rw [if_pos h0, if_pos h1, Option.bind_some, if_pos (decide_eq_true h2)]
 have e4 : (strOfNums [s.lo / 16777216 % 256, s.lo / 65536 % 256, s.lo / 256 % 256, s.lo % 256]).size = 4 := rfl
 rw [Option.bind_some, if_pos (decide_eq_true (by omega)), Option.bind_some, if_pos (by rw [e4]; omega)]
 rfl
theorem build_st (w : World) : (Instr.build 142 #[(0, .agg mNew.c)]).run Tryz.prog w = .ok (.agg (stC mNew 0 (.slice none 0 0) #[])) w := by kernel_rfl
theorem build_wr (w : World) : (Instr.build 144 #[(0, .agg (stC mNew 0 (.slice none 0 0) #[])), (1, .agg #[.int .i64 0, .int .i64 4294967295, .string ⟨#[]⟩])]).run Tryz.prog w = .ok (.agg (ws0.c (.slice none 0 0))) w := by kernel_rfl
theorem cell_of_below {W w : World} {A : Option Addr} {xs : List Int} (h : (Kd.int .i64).C W A xs.length xs) (hb : Below W.heap.size W w) {k : Nat} (hk : k < xs.length) : ∃ ad, A = some ad ∧ w.cell? (ad.add k) = some (.int .i64 (rd xs (k : Int))) := by
 obtain ⟨ad, e, hx⟩ := Kd.at_int h (k : Int) (by omega) (by omega)
 rw [Int.toNat_natCast] at hx
 exact ⟨ad, e, (hb.cell (World.block_lt_of_cell? W _ hx)).trans hx⟩
theorem resid_c (A : Option Addr) (c0 : Nat) (rs : List Int) (W : World) (hT : Extra.Laid W) (hb_ : rs.length ≤ 17592186044416) (hr : (Kd.int .i64).C W A rs.length rs) : Calls Tryz.prog 32 #[.slice A rs.length c0] W fun e w' => e = .returned (.tuple #[.string (residF rs).1, .int .i64 (residF rs).2]) ∧ Below W.heap.size W w' := by
 have HT := Lib.hid hT
 have HR := Lib.hid hr
 clear hT hr
 by_cases hl : rs.length ≤ 256
 ·have d1 : decide ((rs.length : Int) > 256) = false := decide_eq_false (by omega)
  have RF := Lib.hid (show residF rs = (match allRun rs ws0 with | some s => (endF s, 0) | none => (⟨#[]⟩, 1300)) by unfold residF; rw [if_pos hl])
  obtain ⟨R, hR⟩ : ∃ R, R = residF rs := ⟨_, rfl⟩
  rw [← hR] at RF ⊢
  clear hR
  have CN := Lib.hid (fun w => PTp.coder_New.calls 0 4294967295 ⟨#[]⟩ w rfl)
  have b1 := fun w => build_st w
  have b2 := fun w => build_wr w
  go_enter Tryz.func32, Tryz.ntmps32
  go_wp2_with fail
  refine (mNew_c _).mono ?_
  rintro e w1 ⟨rfl, hb⟩
  have H1 := Lib.hid hb
  clear hb
  go_wp2_with fail
  refine (CN.out _).mono ?_
  rintro e w2 ⟨rfl, hb⟩
  have H2 := Lib.hid (below_step H1.out hb)
  clear hb H1 CN
  go_wp2_with fail
  clear b1 b2
  have G3 := Lib.hid (blk_new w2 (.cells (ws0.c (.slice none 0 0)) TW_))
  have H3 := Lib.hid (below_alloc H2.out (.cells (ws0.c (.slice none 0 0)) TW_))
  have hwg := H2.out.size
  obtain ⟨g, hg⟩ : ∃ g, g = w2.heap.size := ⟨_, rfl⟩
  rw [← hg] at G3 hwg ⊢
  clear hg H2
  generalize w2.alloc (.cells (ws0.c (.slice none 0 0)) TW_) = w3 at G3 H3 ⊢
  go_loopw [22] (fun i wr => ∃ (k : Nat) (s : Ws), k ≤ rs.length ∧ i = .int .i64 k ∧ Hid (allRun rs ws0 = allRun (rs.drop k) s) ∧ Hid s.may ∧ Hid (wr.heap[g]? = some (.cells (s.c (.slice none 0 0)) TW_ (0, 0))) ∧ Hid (Below W.heap.size W wr)) (fun i _ => rs.length - (intOf i).toNat)
  case atStart => exact ⟨0, ws0, by omega, rfl, Lib.hid rfl, Lib.hid new_may, G3, H3⟩
  case round =>
   obtain ⟨k, s, hk, rfl, hT, hs, hG, hB⟩ := hrel
   by_cases hlt : k < rs.length
   ·obtain ⟨ad, rfl, hx⟩ := cell_of_below HR.out hB.out hlt
    have hT2 := hT.out
    rw [List.drop_eq_getElem_cons hlt, show rs[k] = rd rs (k : Int) by simp [rd, hlt]] at hT2
    obtain ⟨y, hy⟩ : ∃ y, y = rd rs (k : Int) := ⟨_, rfl⟩
    rw [← hy] at hx hT2
    clear hy
    have NC := Lib.hid (wNum_c g s y wr W HT.out hB.out hwg hs.out hG.out)
    cases hn : numRun y s with
    | none =>
     have HN := Lib.hid (show R = (⟨#[]⟩, 1300) by rw [RF.out, hT2]; unfold allRun; rw [hn]; rfl)
     have NC2 := NC.out
     rw [hn] at NC2
     have NC3 := Lib.hid NC2
     clear NC NC2 hT hT2 hn
     go_wp2_with fail
     refine NC3.out.mono ?_
     rintro e w4 ⟨rfl, h4, -⟩
     have H4 := Lib.hid h4
     clear h4 hG hB NC3
     go_wp2_with fail
     go_ret2
     exact ⟨by rw [HN.out]; rfl, H4.out⟩
    | some t =>
     have HN := Lib.hid (show allRun rs ws0 = allRun (rs.drop (k + 1)) t by rw [hT2]; show (numRun y s).bind _ = _; rw [hn]; rfl)
     have HTM := Lib.hid (num_may hs.out hn)
     have NC2 := NC.out
     rw [hn] at NC2
     have NC3 := Lib.hid NC2
     clear NC NC2 hT hT2 hn
     go_wp2_with fail
     refine NC3.out.mono ?_
     rintro e w4 ⟨rfl, h4, g4⟩
     have H4 := Lib.hid h4
     have G4 := Lib.hid (g4 t rfl)
     clear h4 g4 hG hB NC3
     go_wp2_with fail
     exact ⟨⟨k + 1, t, by omega, by go_num, HN, HTM, G4, H4⟩, by simp [intOf]; omega⟩
   ·obtain rfl : k = rs.length := by omega
    have hT2 := hT.out
    rw [List.drop_length] at hT2
    have HN := Lib.hid (show R = (endF s, 0) by rw [RF.out, hT2]; rfl)
    have EC := Lib.hid (fun w => PTp.coder_End.calls s.lo s.hi s.o (endF s) 0 w (end_yes hs.out))
    have lc := st_coder (show wr.heap[g]? = some (.cells (stC s.m s.b (.slice none 0 0) (coC s.lo s.hi s.o)) TW_ (0, 0)) from hG.out) rfl
    clear hT hT2
    go_wp2_with fail
    clear lc
    refine (EC.out _).mono ?_
    rintro e w4 ⟨rfl, hb⟩
    have H4 := Lib.hid (below_step hB.out hb)
    clear hb hB hG EC
    go_wp2_with fail
    go_ret2
    exact ⟨by rw [HN.out]; rfl, H4.out⟩
 ·have d1 : decide ((rs.length : Int) > 256) = true := decide_eq_true (by omega)
  have RF := Lib.hid (show residF rs = (⟨#[]⟩, 1300) by unfold residF; rw [if_neg hl])
  obtain ⟨R, hR⟩ : ∃ R, R = residF rs := ⟨_, rfl⟩
  rw [← hR] at RF ⊢
  clear hR
  go_enter Tryz.func32, Tryz.ntmps32
  go_wp2_with fail
  go_ret2
  exact ⟨by rw [RF.out]; rfl, Below.refl _ _⟩
end Go.Proofs.YtnoibcdojfnicaaGreatDoor.PB
namespace Go.Proofs.YtnoibcdojfnicaaGreatDoor.PW
open Go.Proofs.YtnoibcdojfnicaaGreatDoorW.Short
open Bool renaming true → Y, false → J
open Go Go.RowKit Go.Proofs.YtnoibcdojfnicaaGreatDoorW.PrintWords Go.Proofs.YtnoibcdojfnicaaGreatDoorW.PrintMore Go.Proofs.YtnoibcdojfnicaaGreatDoorW.PrintLast
def isZ (x : Int) : Bool := decide (x = 0)
def allZ (xs : List Int) : Bool := xs.all isZ
theorem odd_c (x : Int) (w : World) : Calls Tryz.prog 152 #[.int .i64 x] w fun e w' => e = .returned (.bool (!isZ x)) ∧ w' = w := by
 go_enter Tryz.func152, Tryz.ntmps152
 go_wp2
 go_ret
 exact ⟨by rw [show (!isZ x) = (x != 0) by unfold isZ; by_cases c : x = 0 <;> simp [c]]; rfl, rfl⟩
theorem elem_c {w : World} {A : Option Addr} {xs : List Int} (h : (Kd.int .i64).C w A xs.length xs) {k : Nat} (hk : k < xs.length) : ∃ ad, A = some ad ∧ w.cell? (ad.add k) = some (.int .i64 (xs.getD k 0)) := by
 obtain ⟨ad, e, hx⟩ := Kd.at_int h (k : Int) (by omega) (by omega)
 rw [Int.toNat_natCast] at hx
 refine ⟨ad, e, ?_⟩
 rw [hx]
 simp [rd]
theorem all_no {xs : List Int} {k : Nat} (hk : k < xs.length) (h : isZ (xs.getD k 0) = false) : allZ xs = false := by
 unfold allZ
 rw [List.all_eq_false]
 exact ⟨xs[k], List.getElem_mem hk, b62_⟩
theorem all_yes {xs : List Int} (h : ∀ j, j < xs.length → isZ (xs.getD j 0) = true) : allZ xs = true := by
 unfold allZ
 rw [List.all_eq_true]
 intro x hx
 obtain ⟨j, hj, rfl⟩ := List.getElem_of_mem hx
 have := h j hj
 rw [List.getD_eq_getElem?_getD, List.getElem?_eq_getElem hj] at this
 exact this
theorem index_c (A : Option Addr) (c0 : Nat) (xs : List Int) (W : World) (hb : xs.length ≤ 17592186044416) (hr : (Kd.int .i64).C W A xs.length xs) : Calls Tryz.prog 120 #[.slice A xs.length c0, .func (Fn.func 152) #[] #[]] W fun e w' => ∃ i : Int, e = .returned (.int .i64 i) ∧ w' = W ∧ decide (i ≥ 0) = !allZ xs := by
 have Hr := Lib.hid hr
 clear hr
 go_enter Tryz.func120, Tryz.ntmps120
 go_wp2_with fail
 go_loop [8] (fun i => ∃ k : Nat, k ≤ xs.length ∧ i = .int .i64 k ∧ ∀ j, j < k → isZ (xs.getD j 0) = true) (fun i => xs.length - (intOf i).toNat)
 case atStart => exact ⟨0, by omega, rfl, fun j hj => by omega⟩
 case round =>
  obtain ⟨k, hk, rfl, hok⟩ := hrel
  have Hok := Lib.hid hok; clear hok
  by_cases hlt : k < xs.length
  ·obtain ⟨ad, rfl, hx⟩ := elem_c Hr.out hlt
   obtain ⟨x, hxe⟩ : ∃ x, x = xs.getD k 0 := ⟨_, rfl⟩
   rw [← hxe] at hx
   have Hx := Lib.hid hxe
   clear hxe
   cases hin : isZ x
   ·have hno := Lib.hid (all_no hlt b80_)
    go_wp2_with (go_at_call 152; refine (odd_c _ _).mono ?_; rintro e w' ⟨rfl, rfl⟩; rw [hin])
    go_ret
    exact ⟨(k : Int), rfl, rfl, b77_⟩
   ·go_wp2_with (go_at_call 152; refine (odd_c _ _).mono ?_; rintro e w' ⟨rfl, rfl⟩; rw [hin])
    go_round
    case rel =>
     refine ⟨k + 1, by omega, by go_num, fun j hj => ?_⟩
     by_cases hjk : j = k
     ·rw [hjk, ← Hx.out]; exact hin
     ·exact Hok.out j (by omega)
    case measure => simp [intOf]; omega
  ·have hyes := Lib.hid (all_yes (fun j hj => Hok.out j (by omega)))
   go_wp2_with fail
   go_ret
   exact ⟨-1, rfl, rfl, by rw [hyes.out]; rfl⟩
theorem contains_c (A : Option Addr) (c0 : Nat) (xs : List Int) (W : World) (hb : xs.length ≤ 17592186044416) (hr : (Kd.int .i64).C W A xs.length xs) : Calls Tryz.prog 64 #[.slice A xs.length c0, .func (Fn.func 152) #[] #[]] W fun e w' => e = .returned (.bool (!allZ xs)) ∧ w' = W := by
 go_enter Tryz.func64, Tryz.ntmps64
 go_wp2_with fail
 refine (index_c A c0 xs W hb hr).mono ?_
 rintro e w' ⟨i, rfl, hw, hi⟩
 have hw := hw.symm
 subst hw
 go_wp2_with fail
 go_ret
 exact ⟨rfl, rfl⟩
def orAt (xs : List Int) : Nat → Int
 | 0 => 0
 | k + 1 => Go.bits .or .i64 (orAt xs k) (rd xs (k : Int))
def wastedF (xs : List Int) : Int × Int := if PSh.mayS xs 0 = true then (if orAt xs xs.length = 0 then (0, 0) else (mn (Lib.ctz 64 (IntKind.u64.wrap (orAt xs xs.length)).toNat : Int) 15, 0)) else (0, 1800)
def wasteAt (chs : List (List Int)) : Nat → Int
 | 0 => 15
 | k + 1 => if allZ (chs.getD k []) = true then wasteAt chs k else mn (wasteAt chs k) (wastedF (chs.getD k [])).1
def wasteF (chs : List (List Int)) : Int := wasteAt chs chs.length
attribute [local go_sem] max2_int min2_int max_two min_two
theorem rt2 {a b : Int} {v : Value} (h : a = b) : Ending.returned (.tuple #[.int .i64 a, v]) = Ending.returned (.tuple #[.int .i64 b, v]) := by rw [h]
theorem wasted_c (A : Option Addr) (c0 : Nat) (xs : List Int) (W : World) (hT : Extra.Laid W) (hb : xs.length ≤ 17592186044416) (hr : (Kd.int .i64).C W A xs.length xs) : Calls Tryz.prog 153 #[.slice A xs.length c0] W fun e w' => e = .returned (.tuple #[.int .i64 (wastedF xs).1, .int .i64 (wastedF xs).2]) ∧ w' = W := by
 have HT := Lib.hid hT
 have Hr := Lib.hid hr
 clear hT hr
 obtain ⟨R, hR⟩ : ∃ R, R = wastedF xs := ⟨_, rfl⟩
 rw [← hR]
 have HR := Lib.hid hR
 clear hR
 cases hm : PSh.mayS xs 0
 ·have HE := Lib.hid (show R = (0, 1800) by rw [HR.out]; unfold wastedF; rw [hm]; rfl)
  have MC := Lib.hid (PSh.may_c A c0 xs 0 W hb Hr.out)
  rw [hm] at MC
  go_enter Tryz.func153, Tryz.ntmps153
  go_wp2_with (go_at_call 84; refine MC.out.mono ?_; rintro e w' ⟨rfl, hw⟩; have hw := hw.symm; subst hw)
  go_ret2
  exact ⟨by rw [HE.out]; rfl, rfl⟩
 ·have HE := Lib.hid (show R = if orAt xs xs.length = 0 then (0, 0) else (mn (Lib.ctz 64 (IntKind.u64.wrap (orAt xs xs.length)).toNat : Int) 15, 0) by rw [HR.out]; unfold wastedF; rw [hm]; rfl)
  have MC := Lib.hid (PSh.may_c A c0 xs 0 W hb Hr.out)
  rw [hm] at MC
  clear hm
  go_enter Tryz.func153, Tryz.ntmps153
  go_wp2_with (go_at_call 84; refine MC.out.mono ?_; rintro e w' ⟨rfl, hw⟩; have hw := hw.symm; subst hw)
  clear MC
  go_loop [4, 12] (fun a i => ∃ k : Nat, k ≤ xs.length ∧ i = .int .i64 k ∧ a = .int .i64 (orAt xs k)) (fun _ i => xs.length - (intOf i).toNat)
  case atStart => exact ⟨0, by omega, rfl, rfl⟩
  case round =>
   obtain ⟨k, hk, rfl, rfl⟩ := hrel
   by_cases hlt : k < xs.length
   ·obtain ⟨ad, rfl, hx⟩ := elem_c Hr.out hlt
    have V := Lib.hid (show orAt xs (k + 1) = Go.bits .or .i64 (orAt xs k) (xs.getD k 0) by show Go.bits _ _ _ _ = _; rw [show rd xs (k : Int) = xs.getD k 0 by simp [rd]])
    obtain ⟨x, hx2⟩ : ∃ x, x = xs.getD k 0 := ⟨_, rfl⟩
    obtain ⟨y, hy2⟩ : ∃ y, y = orAt xs k := ⟨_, rfl⟩
    rw [← hx2] at hx V
    rw [← hy2] at V ⊢
    clear hx2 hy2
    go_wp2_with fail
    go_round
    case rel => exact ⟨k + 1, by omega, by go_num, by rw [V.out]⟩
    case measure => simp [intOf]; omega
   ·obtain rfl : k = xs.length := by omega
    obtain ⟨y, hy2⟩ : ∃ y, y = orAt xs xs.length := ⟨_, rfl⟩
    rw [← hy2] at HE ⊢
    clear hy2
    by_cases h0 : y = 0
    ·subst h0
     go_wp2_with fail
     go_ret2
     exact ⟨by rw [HE.out]; rfl, rfl⟩
    ·have h1 : (y == 0) = false := beq_eq_false_iff_ne.2 h0
     have hu : 0 ≤ IntKind.u64.wrap y ∧ IntKind.u64.wrap y < 18446744073709551616 := by rw [IntKind.wrap_u64]; omega
     obtain ⟨u, hu2⟩ : ∃ u : Nat, u = (IntKind.u64.wrap y).toNat := ⟨_, rfl⟩
     have hu3 : IntKind.u64.wrap y = u := by omega
     have HE2 := Lib.hid (show R = (mn (Lib.ctz 64 u : Int) 15, 0) by rw [HE.out, if_neg h0, ← hu2])
     have TC := Lib.hid (PSh.tz_c u (by omega) W HT.out)
     obtain ⟨c, hc⟩ : ∃ c, c = (Lib.ctz 64 u : Int) := ⟨_, rfl⟩
     rw [← hc] at TC HE2
     clear HE HR hu hu2 hc h0
     go_wp2_with (go_at_call 168; refine TC.out.mono ?_; rintro e w' ⟨rfl, hw⟩; have hw := hw.symm; subst hw)
     all_goals
      go_ret2
      exact ⟨by rw [HE2.out]; exact rt2 (by unfold mn; (repeat' split) <;> omega), rfl⟩
theorem waste_c (A : Option Addr) (c0 : Nat) (chs : List (List Int)) (W : World) (hT : Extra.Laid W) (hb : chs.length ≤ 17592186044416) (hbs : ∀ xs ∈ chs, xs.length ≤ 17592186044416) (hr : Kd.C (Kd.slice 3 (Kd.int .i64)) W A chs.length chs) : Calls Tryz.prog 127 #[.slice A chs.length c0] W fun e w' => e = .returned (.int .i64 (wasteF chs)) ∧ Below W.heap.size W w' := by
 have HT := Lib.hid hT
 have Hr := Lib.hid hr
 have HB := Lib.hid hbs
 clear hT hr hbs
 go_enter Tryz.func127, Tryz.ntmps127
 go_wp2_with fail
 go_loop [3, 10] (fun a i => ∃ k : Nat, k ≤ chs.length ∧ i = .int .i64 k ∧ a = .int .i64 (wasteAt chs k)) (fun _ i => chs.length - (intOf i).toNat)
 case atStart => exact ⟨0, by omega, rfl, rfl⟩
 case round =>
  obtain ⟨k, hk, rfl, rfl⟩ := hrel
  by_cases hlt : k < chs.length
  ·obtain ⟨ad, A0, c1, rfl, hx, hC⟩ := PS.row_c Hr.out hlt
   have V := Lib.hid (show wasteAt chs (k + 1) = if allZ (chs.getD k []) = true then wasteAt chs k else mn (wasteAt chs k) (wastedF (chs.getD k [])).1 from rfl)
   have hbx : (chs.getD k []).length ≤ 17592186044416 := by
    rw [List.getD_eq_getElem?_getD, List.getElem?_eq_getElem hlt]
    exact HB.out _ (List.getElem_mem hlt)
   obtain ⟨xs, hxs⟩ : ∃ xs, xs = chs.getD k [] := ⟨_, rfl⟩
   obtain ⟨y, hy⟩ : ∃ y, y = wasteAt chs k := ⟨_, rfl⟩
   rw [← hxs] at hx hC V hbx
   rw [← hy] at V ⊢
   have CC := Lib.hid (contains_c A0 c1 xs W hbx hC)
   have WC := Lib.hid (wasted_c A0 c1 xs W HT.out hbx hC)
   clear hxs hy hC
   cases hz : allZ xs
   ·rw [hz] at CC V
    replace V := Lib.hid (V.out.trans (if_neg (by decide)))
    obtain ⟨z, hz2⟩ : ∃ z, z = (wastedF xs).1 := ⟨_, rfl⟩
    obtain ⟨e_, he_⟩ : ∃ e_, e_ = (wastedF xs).2 := ⟨_, rfl⟩
    rw [← hz2, ← he_] at WC
    rw [← hz2] at V
    clear hz2 he_ hz
    go_wp2_with (first | (go_at_call 64; refine CC.out.mono ?_; rintro e w' ⟨rfl, hw⟩; have hw := hw.symm; subst hw) | (go_at_call 153; refine WC.out.mono ?_; rintro e w' ⟨rfl, hw⟩; have hw := hw.symm; subst hw))
    all_goals
     exact ⟨⟨k + 1, by omega, by go_num, by rw [V.out]; refine congrArg (Value.int .i64) ?_; unfold mn; (repeat' split) <;> omega⟩, by simp [intOf]; omega⟩
   ·rw [hz] at CC V
    replace V := Lib.hid (V.out.trans (if_pos rfl))
    clear hz
    go_wp2_with (go_at_call 64; refine CC.out.mono ?_; rintro e w' ⟨rfl, hw⟩; have hw := hw.symm; subst hw)
    exact ⟨⟨k + 1, by omega, by go_num, by rw [V.out]⟩, by simp [intOf]; omega⟩
  ·obtain rfl : k = chs.length := by omega
   go_wp2_with fail
   go_ret
   exact ⟨rfl, Below.refl _ _⟩
end Go.Proofs.YtnoibcdojfnicaaGreatDoor.PW
