/- A part of the proof of a law of descanttop: this session's own texts and printed texts, shortened and joined. -/
import Derived.Test.YtnoibcdojfnicaaGreatDoorD4
import Derived.Test.YtnoibcdojfnicaaGreatDoorD3
import Derived.Test.YtnoibcdojfnicaaGreatDoorD5
import Derived.Test.YtnoibcdojfnicaaGreatDoorD24
import Derived.Test.YtnoibcdojfnicaaGreatDoorD7
set_option linter.unusedVariables false
set_option linter.unusedSimpArgs false
namespace Go.Proofs.YtnoibcdojfnicaaGreatDoor.PG
open Go.Proofs.YtnoibcdojfnicaaGreatDoorW.Short
open Bool renaming true → Y, false → J
open Go Go.RowKit Go.Proofs.YtnoibcdojfnicaaGreatDoorW.PrintWords Go.Proofs.YtnoibcdojfnicaaGreatDoorW.PrintMore Go.Proofs.YtnoibcdojfnicaaGreatDoorW.PrintLast
open Go.Proofs.YtnoibcdojfnicaaGreatDoor.Modn
def rG12T : Bool × List (List Nat × List Nat) := (true, [([], []), ([0], [0]), ([1], [1]), ([], []), ([], []), ([], []), ([5], [5]), ([6], [6]), ([], []), ([8], [8]), ([9], [9]), ([2, 3, 4, 7, 10, 2], [2, 3, 4, 7, 10]), ([11, 11, 0, 1, 2, 3, 4, 5, 6, 7, 8, 9, 10, 11], [11])])
def rG12B : List Nat := [0, 1, 3, 0, 0, 0, 32, 96, 0, 256, 768, 2047, 4095]
theorem rG12_tab : rtab .any (opsOf Tryz.f43 12) = rG12T := by kernel_rfl
theorem rG12_bits : waitsOk rG12T.2 rG12B = true := by kernel_rfl
theorem goesV_ {P : Program} {ops : Array Oper} {Q : Exit → Act → World → Prop} {oi : Oper} {N : Option Tmp} {a : Act} {w : World} {K : Act → World → Prop} {f : FuncId} {fn : Func} {op0 : Operand} {as_ : Array Operand} {ts : Array TypeId} (hf : P.funcs[f]? = some fn) (hname : (fn.name == "runtime.NumGoroutine") = false) (hb : fn.body.isSome = true) (args : Array Value)
  (hw : Region.wanted oi (yielded ops a.tmps) = true) (hN : oi.dst = N) (hop : oi.op = .call { callee := .value op0, args := as_, argTypes := ts }) (hv : a.eval op0 = .func (Fn.func f) #[] #[]) (hargs : as_.map a.eval = args)
  (h : Calls P f args w fun e w' => ∃ v, e = .returned v ∧ K (a.put N v) w') : if Region.wanted oi (yielded ops a.tmps) = true then Oper.wp P oi a w K Q else K (a.put N undef) w := by
 refine call_ f args hw hN ?_ h
 have he := enters_ hf hname hb args w
 unfold execOp
 simp [hop, resolve, Deferred.ofValue, invoke, hv, hargs, he]
abbrev FRT := ByteArray → Int → Int → Int → Int → Option ByteArray
def FrOk (FR : FRT) : Prop := ∀ (own : ByteArray) (c b by_ many : Int) (r : ByteArray) (w : World), Extra.Laid w → FR own c b by_ many = some r → Calls Tryz.prog 143 #[.string own, .agg #[.int .i64 c, .int .i64 b], .int .i64 by_, .int .i64 many] w fun e w' => e = .returned (.string r) ∧ Below w.heap.size w w'
theorem frNone : FrOk (fun _ _ _ _ _ => none) := fun _ _ _ _ _ _ _ _ h => absurd h (by simp)
def opF (kd : Int) : FuncId := if kd = 1 then 143 else if kd = 2 then 144 else 145
def openF (FR : FRT) (kd : Int) (own : ByteArray) (c b by_ many : Int) : Option ByteArray := if kd = 1 then FR own c b by_ many else if kd = 2 then strings_Repeat.f own many else some own
theorem opens_c (kd : Int) (w : World) : Calls Tryz.prog 107 #[.int .u8 kd] w fun e w' => e = .returned (.func (Fn.func (opF kd)) #[] #[]) ∧ w' = w := by
 by_cases h1 : kd = 1
 ·subst h1
  go_enter Tryz.func107, Tryz.ntmps107
  go_wp2_with fail
  go_ret
  exact ⟨rfl, rfl⟩
 ·have e1 : (kd == 1) = false := beq_eq_false_iff_ne.2 h1
  by_cases h2 : kd = 2
  ·subst h2
   go_enter Tryz.func107, Tryz.ntmps107
   go_wp2_with fail
   go_ret
   exact ⟨rfl, rfl⟩
  ·have e2 : (kd == 2) = false := beq_eq_false_iff_ne.2 h2
   have e3 : opF kd = 145 := by unfold opF; rw [if_neg h1, if_neg h2]
   rw [e3]
   go_enter Tryz.func107, Tryz.ntmps107
   go_wp2_with fail
   go_ret
   exact ⟨rfl, rfl⟩
theorem open1_c (own : ByteArray) (c b by_ many : Int) (r : ByteArray) (w : World) (h : strings_Repeat.f own many = some r) : Calls Tryz.prog 144 #[.string own, .agg #[.int .i64 c, .int .i64 b], .int .i64 by_, .int .i64 many] w fun e w' => e = .returned (.string r) ∧ Below w.heap.size w w' := by
 have RC := Lib.hid (fun w => strings_Repeat.calls own many r w h)
 clear h
 go_enter Tryz.func144, Tryz.ntmps144
 go_wp2_with fail
 refine (RC.out _).mono ?_
 rintro e w3 ⟨rfl, hb⟩
 have H3 := Lib.hid (below_step (below_alloc (Below.refl w.heap.size w) (.cells #[.int .i64 c, .int .i64 b] 69)) hb)
 clear hb
 go_wp2_with fail
 go_ret
 exact ⟨rfl, H3.out⟩
theorem open2_c (own : ByteArray) (c b by_ many : Int) (w : World) : Calls Tryz.prog 145 #[.string own, .agg #[.int .i64 c, .int .i64 b], .int .i64 by_, .int .i64 many] w fun e w' => e = .returned (.string own) ∧ Below w.heap.size w w' := by
 go_enter Tryz.func145, Tryz.ntmps145
 go_wp2_with fail
 go_ret
 exact ⟨rfl, below_alloc (Below.refl w.heap.size w) (.cells #[.int .i64 c, .int .i64 b] 69)⟩
theorem open_c {FR : FRT} (hFR : FrOk FR) (kd : Int) (own : ByteArray) (c b by_ many : Int) (r : ByteArray) (w : World) (hL : Extra.Laid w) (h : openF FR kd own c b by_ many = some r) : Calls Tryz.prog (opF kd) #[.string own, .agg #[.int .i64 c, .int .i64 b], .int .i64 by_, .int .i64 many] w fun e w' => e = .returned (.string r) ∧ Below w.heap.size w w' := by
 unfold openF at h
 unfold opF
 by_cases h1 : kd = 1
 ·rw [if_pos h1] at h ⊢; exact hFR _ _ _ _ _ _ _ hL h
 ·rw [if_neg h1] at h ⊢
  by_cases h2 : kd = 2
  ·rw [if_pos h2] at h ⊢; exact open1_c own c b by_ many r w h
  ·rw [if_neg h2] at h ⊢
   obtain rfl := Option.some.inj h
   exact open2_c own c b by_ many w
theorem opF_fn (kd : Int) : ∃ fn, Tryz.prog.funcs[opF kd]? = some fn ∧ (fn.name == "runtime.NumGoroutine") = false ∧ fn.body.isSome = true := by
 unfold opF
 split
 ·exact ⟨_, Tryz.func143, by kernel_rfl, rfl⟩
 ·split
  ·exact ⟨_, Tryz.func144, by kernel_rfl, rfl⟩
  ·exact ⟨_, Tryz.func145, by kernel_rfl, rfl⟩
theorem tl_inj {a b : ByteArray} (h : a.toList = b.toList) : a = b := by
 rw [ByteArray.toList_eq, ByteArray.toList_eq] at h
 exact ByteArray.ext (Array.toList_inj.1 h)
theorem fm_cells {w : World} {g : Nat} {c b : Int} {T : TypeId} {fr : Nat × Nat} (h : w.heap[g]? = some (.cells #[.int .i64 c, .int .i64 b] T fr)) : w.cell? ⟨g, 0, none⟩ = some (.int .i64 c) ∧ w.cell? ⟨g, 1, none⟩ = some (.int .i64 b) :=
 ⟨(cell_of_row w g 0 _ T fr h).trans rfl, (cell_of_row w g 1 _ T fr h).trans rfl⟩
def segGet2 (k : Nat) (FR : FRT) (s own : ByteArray) (c b : Int) : Option (ByteArray × Int) := (openF FR (bt s 0) own c b (bt s 1) (bt s 2)).bind fun d => (segment_Put.f k d c b).map fun r => if r.2 = 0 ∧ r.1 = s then (d, 0) else (⟨#[]⟩, 2200)
def segGet1 (k : Nat) (FR : FRT) (s own : ByteArray) (n c b : Int) : Option (ByteArray × Int) := (field_Get.f k (s.extract (s.size - 4) s.size)).bind fun q => (crc_Sum.f (s.extract 0 (s.size - 4))).bind fun cs => if q.1 = cs then (if n > 4096 then some (⟨#[]⟩, 2200) else if bt s 2 > 64 then some (⟨#[]⟩, 2200) else segGet2 k FR s own c b) else some (⟨#[]⟩, 2201)
def segGet (k : Nat) (FR : FRT) (s : ByteArray) (c b : Int) : Option (ByteArray × Int) := (pcm_May.f c b).bind fun m => if m = true then (if 9 ≤ s.size then (field_Get.f k (s.extract 3 5)).bind fun p => if 0 ≤ p.1 ∧ p.1 ≤ 140737488351232 then (if (s.size : Int) = 9 + p.1 then segGet1 k FR s (s.extract 5 (s.size - 4)) p.1 c b else some (⟨#[]⟩, 2200)) else none else some (⟨#[]⟩, 2200)) else some (⟨#[]⟩, 2200)
set_option maxRecDepth 100000 in
set_option maxHeartbeats 8000000 in
theorem segGet_c (k : Nat) {FR : FRT} (hFR : FrOk FR) (s : ByteArray) (c b : Int) (R : ByteArray × Int) (W : World) (hs : s.size ≤ 140737488351232) (hL : Extra.Laid W) (h : segGet k FR s c b = some R) : Calls Tryz.prog 43 #[.string s, .agg #[.int .i64 c, .int .i64 b]] W fun e w' => e = .returned (.tuple #[.string R.1, .int .i64 R.2]) ∧ Below W.heap.size W w' := by
 have HL := Lib.hid hL
 clear hL
 obtain ⟨m, hm, h⟩ := Option.bind_eq_some_iff.1 h
 have MC := Lib.hid (fun w => pcm_May.calls c b m w hm)
 clear hm
 have hu69 := Tryz.underlying69
 obtain ⟨g, hg⟩ : ∃ g, g = W.heap.size := ⟨_, rfl⟩
 have B2 := Lib.hid (blk_new W (.cells #[.int .i64 c, .int .i64 b] 69))
 have H2 := Lib.hid (below_alloc (Below.refl W.heap.size W) (.cells #[.int .i64 c, .int .i64 b] 69))
 rw [← hg] at B2
 obtain ⟨w2, hw2⟩ : ∃ w2, w2 = W.alloc (.cells #[.int .i64 c, .int .i64 b] 69) := ⟨_, rfl⟩
 rw [← hw2] at B2 H2
 obtain ⟨k0, k1⟩ := fm_cells B2.out
 have HW := Lib.hid hw2
 have HG := Lib.hid hg
 clear hw2 hg
 cases m
 ·obtain rfl := Option.some.inj h
  clear h
  go_enter Tryz.func43, Tryz.ntmps43
  go_wp2_with fail
  rw [← HW.out]
  simp only [← HG.out]
  go_wp2_with fail
  refine (MC.out _).mono ?_
  rintro e w3 ⟨rfl, hb⟩
  have B3 := Lib.hid (blk_below B2.out hb)
  have H3 := Lib.hid (below_step H2.out hb)
  clear hb B2 H2
  go_wp2_with fail
  go_ret2
  exact ⟨rfl, H3.out⟩
 ·rw [if_pos rfl] at h
  by_cases h9 : 9 ≤ s.size
  ·rw [if_pos h9] at h
   obtain ⟨⟨n, e1⟩, hp, h⟩ := Option.bind_eq_some_iff.1 h
   have F1 := Lib.hid (fun w => field_Get.calls k (s.extract 3 5) n e1 w hp)
   clear hp
   dsimp only at h
   by_cases hn : 0 ≤ n ∧ n ≤ 140737488351232
   ·rw [if_pos hn] at h
    obtain ⟨hn0, hn1⟩ := hn
    have c1 : decide ((s.size : Int) < 9) = false := decide_eq_false (by omega)
    have q1 : (5 : Int) ≤ (s.size : Int) := by omega
    have q1b : 5 ≤ s.size := by omega
    have u1 := Num.w64 (n := 9 + n) (by omega) (by omega)
    have v1 : IntKind.i64.wrap (9 + n) = 9 + n := (Num.wrap_eq _).trans u1
    by_cases he : (s.size : Int) = 9 + n
    ·rw [if_pos he] at h
     have c2 : ((s.size : Int) == 9 + n) = true := beq_iff_eq.2 he
     have c3 : ((s.size : Int) != 9 + n) = false := bne_eq_false_iff_eq.2 he
     have u2 := Num.w64 (n := 5 + n) (by omega) (by omega)
     have v2 : IntKind.i64.wrap (5 + n) = 5 + n := (Num.wrap_eq _).trans u2
     have u3 := Num.w64 (n := (s.size : Int) - 4) (by omega) (by omega)
     have v3 : IntKind.i64.wrap ((s.size : Int) - 4) = (s.size : Int) - 4 := (Num.wrap_eq _).trans u3
     have hne : (5 + n).toNat = s.size - 4 := by omega
     have hme : ((s.size : Int) - 4).toNat = s.size - 4 := by omega
     have q2 : (5 : Int) ≤ 5 + n := by omega
     have q3 : 5 + n ≤ (s.size : Int) := by omega
     have q4 : (0 : Int) ≤ (s.size : Int) - 4 := by omega
     have q5 : (s.size : Int) - 4 ≤ (s.size : Int) := by omega
     unfold segGet1 at h
     obtain ⟨⟨en, e2⟩, hp, h⟩ := Option.bind_eq_some_iff.1 h
     have F2 := Lib.hid (fun w => field_Get.calls k (s.extract (s.size - 4) s.size) en e2 w hp)
     clear hp
     obtain ⟨cs, hp, h⟩ := Option.bind_eq_some_iff.1 h
     have CS := Lib.hid (fun w => crc_Sum.calls (s.extract 0 (s.size - 4)) cs w hp)
     clear hp
     dsimp only at h
     have Hs := Lib.hid he
     clear he
     have Hh := Lib.hid h
     clear h
     go_enter Tryz.func43, Tryz.ntmps43
     go_wp2_with fail
     rw [← HW.out]
     simp only [← HG.out]
     go_wp2_with fail
     refine (MC.out _).mono ?_
     rintro e w3 ⟨rfl, hb⟩
     have B3 := Lib.hid (blk_below B2.out hb)
     have H3 := Lib.hid (below_step H2.out hb)
     clear hb B2 H2
     clear k0 k1
     go_wp2_with fail
     refine (F1.out _).mono ?_
     rintro e w4 ⟨rfl, hb⟩
     have B4 := Lib.hid (blk_below B3.out hb.below)
     have H4 := Lib.hid (below_step H3.out hb.below)
     clear hb B3 H3
     go_wp2_with fail
     refine (F2.out _).mono ?_
     rintro e w5 ⟨rfl, hb⟩
     have B5 := Lib.hid (blk_below B4.out hb.below)
     have H5 := Lib.hid (below_step H4.out hb.below)
     clear hb B4 H4
     go_wp2_with fail
     refine (CS.out _).mono ?_
     rintro e w6 ⟨rfl, hb⟩
     have B6 := Lib.hid (blk_below B5.out hb)
     have H6 := Lib.hid (below_step H5.out hb)
     clear hb B5 H5
     have l0 := eq_true (show 0 < s.size by omega)
     have l1 := eq_true (show 1 < s.size by omega)
     have l2 := eq_true (show 2 < s.size by omega)
     have i0 := eq_true (show (0 : Int) < (s.size : Int) by omega)
     have i1 := eq_true (show (1 : Int) < (s.size : Int) by omega)
     have i2 := eq_true (show (2 : Int) < (s.size : Int) by omega)
     have x0 : ∀ h : 0 < s.size, ((s[0]'h).toNat : Int) = bt s 0 := bt_at s 0
     have x1 : ∀ h : 1 < s.size, ((s[1]'h).toNat : Int) = bt s 1 := bt_at s 1
     have x2 : ∀ h : 2 < s.size, ((s[2]'h).toNat : Int) = bt s 2 := bt_at s 2
     by_cases hcs : en = cs
     ·have h := Hh.out
      rw [if_pos hcs] at h
      have c4 : (en != cs) = false := bne_eq_false_iff_eq.2 hcs
      by_cases h40 : n > 4096
      ·rw [if_pos h40] at h
       obtain rfl := Option.some.inj h
       have c5 : decide (n > 4096) = true := decide_eq_true h40
       go_wp2_with fail
       go_ret2
       exact ⟨rfl, H6.out⟩
      ·rw [if_neg h40] at h
       have c5 : decide (n > 4096) = false := decide_eq_false h40
       by_cases h64 : bt s 2 > 64
       ·rw [if_pos h64] at h
        obtain rfl := Option.some.inj h
        have c6 : decide (bt s 2 > 64) = true := decide_eq_true h64
        go_wp2_with fail
        go_ret2
        exact ⟨rfl, H6.out⟩
       ·rw [if_neg h64] at h
        have c6 : decide (bt s 2 > 64) = false := decide_eq_false h64
        unfold segGet2 at h
        obtain ⟨d, ho, h⟩ := Option.bind_eq_some_iff.1 h
        obtain ⟨⟨r1, r2⟩, hp, h⟩ := Option.map_eq_some_iff.1 h
        have OC := Lib.hid (fun w hL => open_c hFR (bt s 0) (s.extract 5 (s.size - 4)) c b (bt s 1) (bt s 2) d w hL ho)
        have PC := Lib.hid (fun w hL => segment_Put.calls k d c b r1 r2 w hp hL)
        obtain ⟨fn, f1, f2, f3⟩ := opF_fn (bt s 0)
        obtain ⟨kd, hkd⟩ : ∃ kd, kd = bt s 0 := ⟨_, rfl⟩
        obtain ⟨z1, hz1⟩ : ∃ z, z = bt s 1 := ⟨_, rfl⟩
        obtain ⟨z2, hz2⟩ : ∃ z, z = bt s 2 := ⟨_, rfl⟩
        have rz1 := bt_range s 1
        have rz2 := bt_range s 2
        rw [← hz1] at rz1
        rw [← hz2] at rz2
        have y1 : IntKind.i64.wrap z1 = z1 := (Num.wrap_eq _).trans (Num.w64 (by omega) (by omega))
        have y2 : IntKind.i64.wrap z2 = z2 := (Num.wrap_eq _).trans (Num.w64 (by omega) (by omega))
        have y3 := Num.w64 (n := z1) (by omega) (by omega)
        have y4 := Num.w64 (n := z2) (by omega) (by omega)
        rw [← hkd] at x0 OC f1
        rw [← hz1] at x1 OC
        rw [← hz2] at x2 OC c6
        clear hkd hz1 hz2 h64 h40 ho hp Hh
        go_wp2_with fail
        have B7 := Lib.hid (blk_drew B6.out)
        have H7 := Lib.hid (below_drew1 H6.out)
        refine start_ (n := 13) (S := fun w' => w'.heap[g]? = some (.cells #[.int .i64 c, .int .i64 b] 69 (0, 0))) (ds := []) #[J,J,J,J,J,J,J,J,J,J,J,J,J] kr rfl rfl (blk_drew B6.out) (fun hHeld => ?_)
        refine with_tabW rG12_tab rG12_bits (fun HT_ HW_ => ?_)
        generalize w6.drew = w7 at B7 H7 hHeld ⊢
        refine pu_ 0 61 #[Y,J,J,J,J,J,J,J,J,J,J,J,J] HT_ ?_
        refine pu_ 1 62 #[Y,Y,J,J,J,J,J,J,J,J,J,J,J] HT_ ?_
        refine pu_ 3 64 #[Y,Y,J,Y,J,J,J,J,J,J,J,J,J] HT_ ?_
        refine take_ (i := 4) (N := some 65) (v := ?_) (a' := ?_) #[Y,Y,J,Y,Y,J,J,J,J,J,J,J,J] rfl rfl (take_ofW HT_.out HW_.out kr) (fun _ _ _ h => h) (Or.inl ⟨by rfl, ?_⟩) hHeld ?_ ?_
        rotate_left
        ·rintro w' s0
         obtain ⟨k0, k1⟩ := fm_cells s0
         go_simp
         with_reducible rfl
        rotate_left
        ·exact pT
        refine pu_ 5 66 #[Y,Y,J,Y,Y,Y,J,J,J,J,J,J,J] HT_ ?_
        refine pu_ 6 67 #[Y,Y,J,Y,Y,Y,Y,J,J,J,J,J,J] HT_ ?_
        refine pu_ 7 68 #[Y,Y,J,Y,Y,Y,Y,Y,J,J,J,J,J] HT_ ?_
        refine pu_ 8 69 #[Y,Y,J,Y,Y,Y,Y,Y,Y,J,J,J,J] HT_ ?_
        refine pu_ 9 70 #[Y,Y,J,Y,Y,Y,Y,Y,Y,Y,J,J,J] HT_ ?_
        refine pu_ 10 71 #[Y,Y,J,Y,Y,Y,Y,Y,Y,Y,Y,J,J] HT_ ?_
        refine one_ (i := 2) (N := some 63) #[Y,Y,Y,Y,Y,Y,Y,Y,Y,Y,Y,J,J] rfl rfl (one_of HT_.out kr) (by decide) (fun K hK => ?_)
        refine goes_ Tryz.func107 kr rfl #[.int .u8 kd] (by rfl) rfl rfl b50_ ?_
        refine (opens_c kd _).mono ?_
        rintro e w8 ⟨rfl, hw⟩
        refine ⟨_, rfl, ?_⟩
        have hw := hw.symm
        subst hw
        refine hK.out _ _ (B7.out) (fun hHeld => ?_)
        clear hK K
        refine norm_ (a' := ?_) ?_ ?_
        rotate_left
        ·show Act.put _ (some 63) _ = _
         exact pT
        refine one_ (i := 11) (N := some 72) #[Y,Y,Y,Y,Y,Y,Y,Y,Y,Y,Y,Y,J] rfl rfl (one_of HT_.out kr) (by decide) (fun K hK => ?_)
        refine goesV_ f1 f2 f3 #[.string (s.extract 5 (s.size - 4)), .agg #[.int .i64 c, .int .i64 b], .int .i64 z1, .int .i64 z2] (by rfl) rfl rfl (by rfl) b50_ ?_
        refine (OC.out _ (HL.out.below_ H7.out)).mono ?_
        rintro e w8 ⟨rfl, hb⟩
        refine ⟨_, rfl, ?_⟩
        have B8 := Lib.hid (blk_below B7.out hb)
        have H8 := Lib.hid (below_step H7.out hb)
        clear hb B7 H7
        refine hK.out _ _ (B8.out) (fun hHeld => ?_)
        clear hK K
        refine norm_ (a' := ?_) ?_ ?_
        rotate_left
        ·show Act.put _ (some 72) _ = _
         exact pT
        refine pu_ 12 12 #[Y,Y,Y,Y,Y,Y,Y,Y,Y,Y,Y,Y,Y] HT_ ?_
        refine done_ (done_of HT_.out kr) ?_
        clear hHeld
        obtain ⟨k0, k1⟩ := fm_cells B8.out
        go_wp2_with fail
        refine (PC.out _ (HL.out.below_ H8.out)).mono ?_
        rintro e w9 ⟨rfl, hb⟩
        have B9 := Lib.hid (blk_below B8.out hb)
        have H9 := Lib.hid (below_step H8.out hb)
        clear hb B8 H8
        clear k0 k1
        by_cases hr : r2 = 0
        ·subst hr
         by_cases hq : r1 = s
         ·rw [if_pos ⟨rfl, hq⟩] at h
          subst h
          have c7 : (r1.toList == s.toList) = true := beq_iff_eq.2 (by rw [hq])
          have c8 : (r1.toList != s.toList) = false := bne_eq_false_iff_eq.2 (by rw [hq])
          go_wp2_with fail
          go_ret2
          exact ⟨rfl, H9.out⟩
         ·rw [if_neg (fun hh => hq hh.2)] at h
          subst h
          have c7 : (r1.toList == s.toList) = false := beq_eq_false_iff_ne.2 (fun hh => hq (tl_inj hh))
          have c8 : (r1.toList != s.toList) = true := bne_iff_ne.2 (fun hh => hq (tl_inj hh))
          go_wp2_with fail
          go_ret2
          exact ⟨rfl, H9.out⟩
        ·rw [if_neg (fun hh => hr hh.1)] at h
         subst h
         have c7 : (r2 != 0) = true := bne_iff_ne.2 hr
         go_wp2_with fail
         go_ret2
         exact ⟨rfl, H9.out⟩
     ·have h := Hh.out
      rw [if_neg hcs] at h
      obtain rfl := Option.some.inj h
      have c4 : (en != cs) = true := bne_iff_ne.2 hcs
      go_wp2_with fail
      go_ret2
      exact ⟨rfl, H6.out⟩
    ·rw [if_neg he] at h
     obtain rfl := Option.some.inj h
     have c2 : ((s.size : Int) == 9 + n) = false := beq_eq_false_iff_ne.2 he
     have c3 : ((s.size : Int) != 9 + n) = true := bne_iff_ne.2 he
     clear h
     go_enter Tryz.func43, Tryz.ntmps43
     go_wp2_with fail
     rw [← HW.out]
     simp only [← HG.out]
     go_wp2_with fail
     refine (MC.out _).mono ?_
     rintro e w3 ⟨rfl, hb⟩
     have B3 := Lib.hid (blk_below B2.out hb)
     have H3 := Lib.hid (below_step H2.out hb)
     clear hb B2 H2
     clear k0 k1
     go_wp2_with fail
     refine (F1.out _).mono ?_
     rintro e w4 ⟨rfl, hb⟩
     have B4 := Lib.hid (blk_below B3.out hb.below)
     have H4 := Lib.hid (below_step H3.out hb.below)
     clear hb B3 H3
     go_wp2_with fail
     go_ret2
     exact ⟨rfl, H4.out⟩
   ·rw [if_neg hn] at h
    exact absurd h (by simp)
  ·rw [if_neg h9] at h
   obtain rfl := Option.some.inj h
   have c1 : decide ((s.size : Int) < 9) = true := decide_eq_true (by omega)
   clear h
   go_enter Tryz.func43, Tryz.ntmps43
   go_wp2_with fail
   rw [← HW.out]
   simp only [← HG.out]
   go_wp2_with fail
   refine (MC.out _).mono ?_
   rintro e w3 ⟨rfl, hb⟩
   have B3 := Lib.hid (blk_below B2.out hb)
   have H3 := Lib.hid (below_step H2.out hb)
   clear hb B2 H2
   go_wp2_with fail
   go_ret2
   exact ⟨rfl, H3.out⟩
end Go.Proofs.YtnoibcdojfnicaaGreatDoor.PG
namespace Go.Proofs.YtnoibcdojfnicaaGreatDoor.PG
open Go.Proofs.YtnoibcdojfnicaaGreatDoorW.Short
open Bool renaming true → Y, false → J
open Go.RowKit Go.Proofs.YtnoibcdojfnicaaGreatDoorW.PrintWords Go.Proofs.YtnoibcdojfnicaaGreatDoorW.PrintLast Go.Proofs.YtnoibcdojfnicaaGreatDoorW.PrintMore
attribute [local go_sem] max2_int min2_int max_two min_two max_three min_three max_four min_four
def IsS86 (w0 W : World) (g : Nat) (f0 : Int) (f1 : Int) (f2 : Int) (f3 : Int) (f4 : ByteArray) (f5 : ByteArray) (f6 : List ByteArray) : Prop := ∃ A6 c6, W.heap[g]? = some (.cells #[.int .i64 f0, .int .i64 f1, .int .i64 f2, .int .i64 f3, .string f4, .string f5, .slice A6 f6.length c6] 86 (0, 0)) ∧ w0.heap.size ≤ g ∧ Kd.C Kd.string w0 A6 f6.length f6
theorem IsS86.grown {w0 W : World} {g : Nat} {f0 : Int} {f1 : Int} {f2 : Int} {f3 : Int} {f4 : ByteArray} {f5 : ByteArray} {f6 : List ByteArray} {W1 : World} {row : Option Nat} (h : IsS86 w0 W g f0 f1 f2 f3 f4 f5 f6) (hw : W.grownBy W1 row) (hne : some g ≠ row) : IsS86 w0 W1 g f0 f1 f2 f3 f4 f5 f6 := by
 obtain ⟨A6, c6, hb, hg, hr6⟩ := h
 exact ⟨A6, c6, blk_grown hb hw hne, hg, hr6⟩
theorem IsS86.kept {w0 W : World} {g : Nat} {f0 : Int} {f1 : Int} {f2 : Int} {f3 : Int} {f4 : ByteArray} {f5 : ByteArray} {f6 : List ByteArray} {W1 : World} {S : Nat → Prop} (h : IsS86 w0 W g f0 f1 f2 f3 f4 f5 f6) (hk : Kept W W1 S) (hne : ¬ S g) : IsS86 w0 W1 g f0 f1 f2 f3 f4 f5 f6 := by
 obtain ⟨A6, c6, hb, hg, hr6⟩ := h
 exact ⟨A6, c6, blk_kept hb hk hne, hg, hr6⟩
theorem IsS86.below {w0 W : World} {g : Nat} {f0 : Int} {f1 : Int} {f2 : Int} {f3 : Int} {f4 : ByteArray} {f5 : ByteArray} {f6 : List ByteArray} {W1 : World} (h : IsS86 w0 W g f0 f1 f2 f3 f4 f5 f6) (hw : Below W.heap.size W W1) : IsS86 w0 W1 g f0 f1 f2 f3 f4 f5 f6 := h.grown (grown_of_below hw none) (by simp)
theorem IsS86.alloc {w0 W : World} {g : Nat} {f0 : Int} {f1 : Int} {f2 : Int} {f3 : Int} {f4 : ByteArray} {f5 : ByteArray} {f6 : List ByteArray} (h : IsS86 w0 W g f0 f1 f2 f3 f4 f5 f6) (o : Obj) : IsS86 w0 (W.alloc o) g f0 f1 f2 f3 f4 f5 f6 := h.below (below_alloc (Below.refl _ _) o)
theorem IsS86.drewN {w0 W : World} {g : Nat} {f0 : Int} {f1 : Int} {f2 : Int} {f3 : Int} {f4 : ByteArray} {f5 : ByteArray} {f6 : List ByteArray} (h : IsS86 w0 W g f0 f1 f2 f3 f4 f5 f6) (m : Nat) : IsS86 w0 (W.drewN m) g f0 f1 f2 f3 f4 f5 f6 := h
theorem IsS86.drew {w0 W : World} {g : Nat} {f0 : Int} {f1 : Int} {f2 : Int} {f3 : Int} {f4 : ByteArray} {f5 : ByteArray} {f6 : List ByteArray} (h : IsS86 w0 W g f0 f1 f2 f3 f4 f5 f6) : IsS86 w0 W.drew g f0 f1 f2 f3 f4 f5 f6 := h
theorem IsS86.at_ {w0 W : World} {g : Nat} {f0 : Int} {f1 : Int} {f2 : Int} {f3 : Int} {f4 : ByteArray} {f5 : ByteArray} {f6 : List ByteArray} {w' : World} {m : Nat} (hq : W.drewN m = w') (h : IsS86 w0 W g f0 f1 f2 f3 f4 f5 f6) : IsS86 w0 w' g f0 f1 f2 f3 f4 f5 f6 := by subst hq; exact IsS86.drewN h m
theorem IsS86.apart {w0 W : World} {g : Nat} {f0 : Int} {f1 : Int} {f2 : Int} {f3 : Int} {f4 : ByteArray} {f5 : ByteArray} {f6 : List ByteArray} {α : Type} {d : Kd α} {e : Nat} {base : Nat} {ok : Nat → Prop} {v : Value} {xs : List α} (h : IsS86 w0 W g f0 f1 f2 f3 f4 f5 f6) (ho : d.R e W base ok v xs) (ht : ∀ q, q ∈ e :: d.E → q ≠ 86) : d.R e W base (fun k => ok k ∧ k ≠ g) v xs := by
 obtain ⟨A6, c6, hb, hg, hr6⟩ := h
 exact Kd.R_types ho hb ht
theorem IsS86.own_ne {w0 W : World} {g : Nat} {f0 : Int} {f1 : Int} {f2 : Int} {f3 : Int} {f4 : ByteArray} {f5 : ByteArray} {f6 : List ByteArray} {α : Type} {d : Kd α} {e : Nat} {base : Nat} {ok : Nat → Prop} {v : Value} {xs : List α} (h : IsS86 w0 W g f0 f1 f2 f3 f4 f5 f6) (ho : d.R e W base ok v xs) (ht : e ≠ 86) : some g ≠ v.ownBlock := by
 obtain ⟨A6, c6, hb, hg, hr6⟩ := h
 exact Kd.R_ne ho hb ht
theorem IsS86.far {w0 W : World} {g : Nat} {f0 : Int} {f1 : Int} {f2 : Int} {f3 : Int} {f4 : ByteArray} {f5 : ByteArray} {f6 : List ByteArray} {p : Addr} (h : IsS86 w0 W g f0 f1 f2 f3 f4 f5 f6) (hne : g ≠ p.block) (u : Value) : IsS86 w0 (W.setCell p u) g f0 f1 f2 f3 f4 f5 f6 := by
 obtain ⟨A6, c6, hb, hg, hr6⟩ := h
 exact ⟨A6, c6, blk_far hb hne u, hg, hr6⟩
theorem IsS86.new (w0 W : World) (A6 : Option Addr) (c6 : Nat) (f0 : Int) (f1 : Int) (f2 : Int) (f3 : Int) (f4 : ByteArray) (f5 : ByteArray) (f6 : List ByteArray) (hB : Below w0.heap.size w0 W) (hr6 : Kd.C Kd.string w0 A6 f6.length f6) : IsS86 w0 (W.alloc (.cells #[.int .i64 f0, .int .i64 f1, .int .i64 f2, .int .i64 f3, .string f4, .string f5, .slice A6 f6.length c6] 86)) W.heap.size f0 f1 f2 f3 f4 f5 f6 := ⟨A6, c6, by simpa using heap_alloc_new W _, hB.size, hr6⟩
def stream_Many.f (a0 : Int) (a1 : Int) : Option (Int) := if a1 = 0 then (none) else (some (wrap64 (Int.tdiv (wrap64 ((wrap64 (a0 + a1)) - 1)) a1)))
set_option maxHeartbeats 8000000 in
set_option maxRecDepth 100000 in
theorem stream_Many.calls (a0 : Int) (a1 : Int) (r : Int) (w : World) (h : stream_Many.f a0 a1 = some r) :
  Calls Tryz.prog 96 #[.int .i64 a0, .int .i64 a1] w fun e w' => e = .returned (.int .i64 r) ∧ Drawn0 w w' := by
 have H : (if a1 = 0 then (none) else (some (wrap64 (Int.tdiv (wrap64 ((wrap64 (a0 + a1)) - 1)) a1)))) = some r := h
 clear h
 by_cases c3 : a1 = 0
 ·rw [if_pos c3] at H
  exact absurd H (by simp)
 ·rw [if_neg c3] at H
  have c3b0 : (a1 == 0) = false := beq_eq_false_iff_ne.mpr c3
  have c3b1 : (a1 != 0) = true := bne_iff_ne.mpr c3
  obtain rfl := Option.some.inj H
  go_enter Tryz.func96, Tryz.ntmps96
  go_wp2
  go_ret
  exact ⟨b57_, b52_⟩
mutual
def varint_Put.j0 : Nat → Int → Bool → Option (ByteArray × Int)
 | 0, _, _ => none
 | k + 1, x0, x10 => if x10 = true then (some ((⟨#[]⟩ : ByteArray), 200)) else (varint_Put.l0 k x0 ([] : List Int))
def varint_Put.l0 : Nat → Int → List Int → Option (ByteArray × Int)
 | 0, _, _ => none
 | k + 1, x0, x4 => if x0 ≥ 128 then (if x4.length < 140737488355328 then (varint_Put.l0 k (wrap64 (Int.tdiv x0 128)) (x4 ++ [(wrap64 ((Int.tmod x0 128) + 128)) % 256])) else (none)) else (if x4.length < 140737488355328 then (some (strOfNums (x4 ++ [(x0) % 256]), 0)) else (none))
end
def varint_Put.f (k : Nat) (a0 : Int) : Option (ByteArray × Int) := if a0 < 0 then (varint_Put.j0 k a0 true) else (varint_Put.j0 k a0 (decide (a0 > 4294967295)))
set_option maxHeartbeats 8000000 in
set_option maxRecDepth 100000 in
theorem varint_Put.calls (k : Nat) (a0 : Int) (r1 : ByteArray) (r2 : Int) (w : World) (h : varint_Put.f k a0 = some (r1, r2)) :
  Calls Tryz.prog 159 #[.int .i64 a0] w fun e w' => e = .returned (.tuple #[.string r1, .int .i64 r2]) ∧ Below w.heap.size w w' := by
 have HB := Aside0.mk (Below.refl w.heap.size w)
 have H : (if a0 < 0 then (varint_Put.j0 k a0 true) else (varint_Put.j0 k a0 (decide (a0 > 4294967295)))) = some (r1, r2) := h
 clear h
 have HC2 := Aside0.mk H
 clear H
 go_enter Tryz.func159, Tryz.ntmps159
 go_upto_region 1 with (fail)
 go_cut [10] (fun v10 wc => ∃ (kq : Nat) (x10_1 : Bool), v10 = .bool x10_1 ∧ Aside0 (varint_Put.j0 kq a0 x10_1 = some (r1, r2)) ∧ Aside0 (kq ≤ k) ∧ Aside0 (Below w.heap.size w wc))
 case first =>
  have H := HC2.out
  clear HC2
  by_cases c3 : a0 < 0
  ·rw [if_pos c3] at H
   have c3b0 : decide (a0 < 0) = true := decide_eq_true c3
   clear c3
   (first | rw [c3b0] | (simp only [i64_w, i32_w]; rw [c3b0]) | skip)
   have H' := Aside0.mk H
   clear H
   go_wp2
   go_meet
   case rel => exact ⟨_, (true), b56_, H', ⟨b60_⟩, ⟨b25_⟩⟩
  ·rw [if_neg c3] at H
   have c3b0 : decide (a0 < 0) = false := decide_eq_false c3
   clear c3
   (first | rw [c3b0] | (simp only [i64_w, i32_w]; rw [c3b0]) | skip)
   have H' := Aside0.mk H
   clear H
   go_wp2
   go_meet
   case rel => exact ⟨_, (decide (a0 > 4294967295)), b56_, H', ⟨b60_⟩, ⟨b25_⟩⟩
 case rest =>
  clear HC2
  try clear c1
  try clear p2
  try clear c3
  try clear c3b0
  obtain ⟨kq, x10_1, rfl, HA, HJ1, HB⟩ := hcut
  cases kq with
  | zero => exact absurd HA.out (by simp [varint_Put.j0])
  | succ kj1 =>
   have H := HA.out
   clear HA
   simp only [varint_Put.j0] at H
   by_cases c4 : x10_1 = true
   ·subst c4
    have H1 : (some ((⟨#[]⟩ : ByteArray), 200)) = some (r1, r2) := by rw [if_pos rfl] at H; exact H
    clear H
    have H := H1
    clear H1
    simp only [Option.some.injEq, Prod.mk.injEq] at H
    obtain ⟨rfl, rfl⟩ := H
    go_wp2
    go_ret2
    exact ⟨b48_, b25_⟩
   ·replace c4 := Bool.eq_false_iff.mpr c4
    subst c4
    have H1 : (varint_Put.l0 kj1 a0 ([] : List Int)) = some (r1, r2) := by rw [if_neg (show ¬ (false = true) by decide)] at H; exact H
    clear H
    have H := H1
    clear H1
    have H' := Aside0.mk H
    clear H
    go_wp2
    go_loopg [0, 4] kj1 (fun kq v0 v4 w' => ∃ (x0_2 : Int) (x4_2 : List Int), v0 = .int .i64 x0_2 ∧ Aside0 (varint_Put.l0 kq x0_2 x4_2 = some (r1, r2)) ∧ Aside0 (kq ≤ kj1) ∧ Aside0 (Kd.R (Kd.int .u8) 5 w' w.heap.size (fun _ => True) v4 x4_2) ∧ Aside0 (Below w.heap.size w w'))
    case atStart => exact ⟨(a0), (([] : List Int)), b56_, H', ⟨Nat.le_refl _⟩, ⟨by first | exact Kd.R_nil _ _ _ _ _ | exact Kd.N_nil _ _ _ _ _ | exact Kd.V_nil _ _ _ _ _ | exact Kd.Q_nil _ _ _ _ _ | exact Kd.S_nil _ _ _ _ _⟩, ⟨b25_⟩⟩
    case round =>
     clear H'
     try clear c1
     try clear p2
     try clear c3
     try clear c3b0
     try clear c4
     try clear p2
     obtain ⟨x0_2, x4_2, rfl, HA, HK2, HO_4, HB⟩ := hrel
     cases gk with
     | zero => exact absurd HA.out (by simp [varint_Put.l0])
     | succ k2 =>
      have H := HA.out
      clear HA
      simp only [varint_Put.l0] at H
      by_cases c5 : x0_2 ≥ 128
      ·rw [if_pos c5] at H
       have c5b0 : decide (128 ≤ x0_2) = true := decide_eq_true c5
       clear c5
       by_cases c6 : x4_2.length < 140737488355328
       ·rw [if_pos c6] at H
        have LMc6 := Aside0.mk c6
        clear c6
        obtain ⟨y261, hy261⟩ : ∃ y_ : List Int, y_ = (x4_2 ++ [(wrap64 ((Int.tmod x0_2 128) + 128)) % 256]) := ⟨_, rfl⟩
        replace H : (varint_Put.l0 k2 (wrap64 (Int.tdiv x0_2 128)) y261) = some (r1, r2) := by first | (rw [hy261]; with_reducible exact H) | (have H2_ := (Option.bind_some _ _).symm.trans H; rw [hy261]; with_reducible exact H2_) | (have H2_ := (Option.bind_some _ _).symm.trans H; with_reducible exact H2_) | with_reducible exact H | (rw [hy261]; exact H) | exact H
        have Ny261 := Aside0.mk hy261
        clear hy261
        have H' := Aside0.mk H
        clear H
        go_wp2_with (first | ((with_reducible refine gate_builtin (b := .append) (xs := #[.tmp 15, .tmp 20]) rfl ?_); at_builtin; refine Kd.R_append (Kd.int .u8) (w0 := w) w.heap.size rfl (.tmp 15) (.tmp 20) 96 5 (.int .u8 0) 1 rfl Tryz.underlying96 info5 rfl (by decide) (by omega) u4 x4_2 ((wrap64 ((Int.tmod x0_2 128) + 128)) % 256) [.int .u8 ((wrap64 ((Int.tmod x0_2 128) + 128)) % 256)] (fun _ => True) (fun _ => False) rfl rfl ?aP (fun _ hk => hk.elim) ?aF ?aO ?aB ?aS ?aL ?_; (case aP => exact rfl); (case aB => exact b24_); (case aF => exact (fun _ _ => trivial)); (case aO => exact b46_); (case aS => exact (below_size b24_)); (case aL => have := LMc6.out; omega); intro v262 w7 ho hb hg hat; rw [← Ny261.out] at ho; have n0_ := Aside0.mk (hb); have n1_ := Aside0.mk (ho); clear HB; clear HO_4; have HB := n0_; have HO263 := n1_; clear n0_ n1_; clear ho hb hg hat))
        go_roundg k2
        case measure => have := HJ1.out; have := HK2.out; omega
        case rel => exact ⟨(wrap64 (Int.tdiv x0_2 128)), (y261), b56_, H', ⟨by have := HJ1.out; have := HK2.out; omega⟩, ⟨by (with_reducible repeat (first | apply Kd.R_alloc | apply Kd.R_drewN | apply Kd.R_drew)); exact HO263.out⟩, ⟨b25_⟩⟩
       ·rw [if_neg c6] at H
        exact absurd H (by simp)
      ·rw [if_neg c5] at H
       have c5b0 : decide (128 ≤ x0_2) = false := decide_eq_false c5
       clear c5
       by_cases c8 : x4_2.length < 140737488355328
       ·rw [if_pos c8] at H
        have LMc8 := Aside0.mk c8
        clear c8
        obtain ⟨y264, hy264⟩ : ∃ y_ : List Int, y_ = (x4_2 ++ [(x0_2) % 256]) := ⟨_, rfl⟩
        replace H : (some (strOfNums y264, 0)) = some (r1, r2) := by first | (rw [hy264]; with_reducible exact H) | (have H2_ := (Option.bind_some _ _).symm.trans H; rw [hy264]; with_reducible exact H2_) | (have H2_ := (Option.bind_some _ _).symm.trans H; with_reducible exact H2_) | with_reducible exact H | (rw [hy264]; exact H) | exact H
        have Ny264 := Aside0.mk hy264
        clear hy264
        simp only [Option.some.injEq, Prod.mk.injEq] at H
        obtain ⟨rfl, rfl⟩ := H
        go_wp2_with (first | ((with_reducible refine gate_builtin (b := .append) (xs := #[.tmp 22, .tmp 25]) rfl ?_); at_builtin; refine Kd.R_append (Kd.int .u8) (w0 := w) w.heap.size rfl (.tmp 22) (.tmp 25) 96 5 (.int .u8 0) 1 rfl Tryz.underlying96 info5 rfl (by decide) (by omega) u4 x4_2 ((x0_2) % 256) [.int .u8 ((x0_2) % 256)] (fun _ => True) (fun _ => False) rfl rfl ?aP (fun _ hk => hk.elim) ?aF ?aO ?aB ?aS ?aL ?_; (case aP => exact rfl); (case aB => exact b24_); (case aF => exact (fun _ _ => trivial)); (case aO => exact b46_); (case aS => exact (below_size b24_)); (case aL => have := LMc8.out; omega); intro v265 w9 ho hb hg hat; rw [← Ny264.out] at ho; have n0_ := Aside0.mk (hb); have n1_ := Aside0.mk (ho); clear HB; clear HO_4; have HB := n0_; have HO266 := n1_; clear n0_ n1_; clear ho hb hg hat; have hcv10 := own_string (P := Tryz.prog) Tryz.underlying96 Tryz.underlying5 Tryz.underlying9 (Kd.own_of_R HO266.out)))
        go_ret2
        exact ⟨b48_, b25_⟩
       ·rw [if_neg c8] at H
        exact absurd H (by simp)
end Go.Proofs.YtnoibcdojfnicaaGreatDoor.PG
