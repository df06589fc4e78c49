/- Layer 18: shift.Down: a contract by hand. -/
import Derived.Test.YtakjcfndinnffaaDoorShift0
namespace Go.Proofs.YtakjcfndinnffaaDoor.PSh
open Go Go.RowKit Go.Proofs.YtakjcfndinnffaaDoorW.PrintWords Go.Proofs.YtakjcfndinnffaaDoorW.PrintMore Go.Proofs.YtakjcfndinnffaaDoorW.PrintLast
set_option linter.unusedVariables false
set_option linter.unusedSimpArgs false
def dn (by_ x : Int) : Int := x / 2 ^ by_.toNat
def upS (by_ y : Int) : Int := wrap64 (y * 2 ^ by_.toNat)
def downOk (by_ : Int) (xs : List Int) : Bool := xs.all fun x => upS by_ (dn by_ x) == x
def downF (xs : List Int) (by_ : Int) : List Int × Int := if (mayS xs by_ && downOk by_ xs) = true then (xs.map (dn by_), 0) else ([], 1800)
abbrev RI (w : World) (base : Nat) (v : Value) (xs : List Int) : Prop := (Kd.int .i64).R 3 w base (fun _ => True) v xs
theorem mix_set (f : Int → Int) (xs : List Int) {k : Nat} (h : k < xs.length) : (((xs.take k).map f ++ xs.drop k).set k (f (rd xs (k : Int)))) = (xs.take (k + 1)).map f ++ xs.drop (k + 1) := by
  have e1 : rd xs (k : Int) = xs[k] := by simp [rd, h]
  have hl : ((xs.take k).map f).length = k := by simp; omega
  rw [e1, List.set_append_right _ _ (by omega), hl, Nat.sub_self, List.drop_eq_getElem_cons h, List.set_cons_zero, List.take_succ_eq_append_getElem h, List.map_append, List.append_assoc]
  rfl
theorem mix_at (f : Int → Int) (xs : List Int) {k : Nat} (h : k < xs.length) : rd ((xs.take k).map f ++ xs.drop k) (k : Int) = rd xs (k : Int) := by
  have hl : ((xs.take k).map f).length = k := by simp; omega
  unfold rd
  rw [Int.toNat_natCast, List.getD_eq_getElem?_getD, List.getD_eq_getElem?_getD, List.getElem?_append_right (by omega), hl, Nat.sub_self, List.getElem?_drop, Nat.add_zero]
theorem down_no {by_ : Int} {xs : List Int} {k : Nat} (hk : k < xs.length) (h : (upS by_ (dn by_ (rd xs (k : Int))) == rd xs (k : Int)) = false) : downOk by_ xs = false := by
  have e1 : rd xs (k : Int) = xs[k] := by simp [rd, hk]
  rw [e1] at h
  unfold downOk
  rw [List.all_eq_false]
  exact ⟨xs[k], List.getElem_mem hk, by simpa using h⟩
theorem down_yes {by_ : Int} {xs : List Int} (h : ∀ j, j < xs.length → (upS by_ (dn by_ (rd xs (j : Int))) == rd xs (j : Int)) = true) : downOk by_ xs = true := by
  unfold downOk
  rw [List.all_eq_true]
  intro x hx
  obtain ⟨j, hj, rfl⟩ := List.getElem_of_mem hx
  have := h j hj
  have e1 : rd xs (j : Int) = xs[j] := by simp [rd, hj]
  rwa [e1] at this
set_option maxHeartbeats 8000000 in
theorem down_c (A : Option Addr) (c0 : Nat) (xs : List Int) (by_ : Int) (W : World) (hb : xs.length ≤ 17592186044416) (hr : (Kd.int .i64).C W A xs.length xs) :
    Calls Tryd.prog 12 #[.slice A xs.length c0, .int .i64 by_] W fun e w' => ∃ v : Value, e = .returned (.tuple #[v, .int .i64 (downF xs by_).2]) ∧ (Kd.int .i64).R 3 w' W.heap.size (fun _ => True) v (downF xs by_).1 ∧ Below W.heap.size W w' := by
  have Hr := Lib.hid hr
  clear hr
  cases hm : mayS xs by_
  · have E : Hid (downF xs by_ = ([], 1800)) := Lib.hid (by unfold downF; rw [hm, Bool.false_and]; rfl)
    have HM := Lib.hid hm
    clear hm
    go_enter Tryd.func12, Tryd.ntmps12
    go_wp2_with (go_at_call 22; refine (may_c _ _ xs _ _ hb Hr.out).mono ?_; rintro e w' ⟨rfl, hw⟩; have hw := hw.symm; subst hw; rw [HM.out])
    go_ret2
    exact ⟨.slice none 0 0, by rw [E.out]; rfl, by rw [E.out]; exact Kd.R_nil _ _ _ _ _, Below.refl _ _⟩
  · have HM := Lib.hid hm
    have hm2 := hm
    unfold mayS at hm2
    rw [Bool.and_eq_true, decide_eq_true_iff] at hm2
    obtain ⟨⟨b0, b1⟩, -⟩ := hm2
    clear hm
    go_enter Tryd.func12, Tryd.ntmps12
    go_wp2_with (go_at_call 22; refine (may_c _ _ xs _ _ hb Hr.out).mono ?_; rintro e w' ⟨rfl, hw⟩; have hw := hw.symm; subst hw; rw [HM.out])
    refine (clone_c A c0 xs _ hb Hr.out).mono ?_
    rintro e w1 ⟨v, rfl, hR, hB⟩
    obtain ⟨n, hn⟩ : ∃ n, n = xs.length := ⟨_, rfl⟩
    obtain ⟨Av, cv, rfl⟩ := Kd.R_slice hR
    rw [← hn] at hR ⊢
    have R1 : Hid (RI w1 W.heap.size (.slice Av n cv) ((xs.take 0).map (dn by_) ++ xs.drop 0)) := Lib.hid (by simpa using hR)
    have B1 := Lib.hid hB
    clear hR hB
    go_wp2_with fail
    go_loopw [17] (fun i wr => ∃ k : Nat, k ≤ n ∧ i = .int .i64 k ∧ Hid (RI wr W.heap.size (.slice Av n cv) ((xs.take k).map (dn by_) ++ xs.drop k)) ∧ Hid (Below W.heap.size W wr) ∧ Hid (∀ j, j < k → (upS by_ (dn by_ (rd xs (j : Int))) == rd xs (j : Int)) = true)) (fun i _ => n - (intOf i).toNat)
    case atStart => exact ⟨0, by omega, rfl, R1, B1, Lib.hid (fun j hj => by omega)⟩
    case round =>
      obtain ⟨k, hk, rfl, hR, hB, hok⟩ := hrel
      by_cases hlt : k < n
      · have hlx : k < xs.length := by omega
        obtain ⟨g, cap, hv, hg, -⟩ := Kd.R_form hR.out (by simp; omega)
        obtain ⟨rfl, -, rfl⟩ : Av = some ⟨g, 0, none⟩ ∧ n = ((xs.take k).map (dn by_) ++ xs.drop k).length ∧ cv = cap := by simpa using hv
        clear hv
        obtain ⟨hc, hf⟩ := Kd.R_celln (d := (0 : Int)) (h1 := fun _ => rfl) hR.out (k : Int) (by omega) (by omega)
        have hrd : rdOf (0 : Int) ((xs.take k).map (dn by_) ++ xs.drop k) (k : Int) = rd xs (k : Int) := mix_at (dn by_) xs hlx
        rw [hrd, Int.toNat_natCast] at hc
        rw [Int.toNat_natCast] at hf
        have R2 : Hid (RI (wr.setCell ⟨g, k, none⟩ (.int .i64 (dn by_ (rd xs (k : Int))))) W.heap.size (.slice (some ⟨g, 0, none⟩) n cv) ((xs.take (k + 1)).map (dn by_) ++ xs.drop (k + 1))) := Lib.hid (by
          have := Kd.R_putn (h1 := fun _ => rfl) hR.out (k : Int) (dn by_ (rd xs (k : Int)))
          rw [Int.toNat_natCast, mix_set (dn by_) xs hlx] at this
          exact this)
        have B2 : Hid (Below W.heap.size W (wr.setCell ⟨g, k, none⟩ (.int .i64 (dn by_ (rd xs (k : Int)))))) := Lib.hid (below_set hB.out hg)
        obtain ⟨x, hx⟩ : ∃ x, x = rd xs (k : Int) := ⟨_, rfl⟩
        rw [← hx] at hc R2 B2
        have HX := Lib.hid hx
        clear hrd hx
        cases hq : (upS by_ (dn by_ x) == x)
        · have ht : (wrap64 (x / 2 ^ by_.toNat * 2 ^ by_.toNat) != x) = true := by
            rw [bne, show wrap64 (x / 2 ^ by_.toNat * 2 ^ by_.toNat) = upS by_ (dn by_ x) from rfl, hq]; rfl
          have E : Hid (downF xs by_ = ([], 1800)) := Lib.hid (by unfold downF; rw [down_no hlx (by rw [← HX.out]; exact hq), Bool.and_false]; rfl)
          clear hq
          go_wp2_with fail
          go_ret2
          exact ⟨.slice none 0 0, by rw [E.out]; rfl, by rw [E.out]; exact Kd.R_nil _ _ _ _ _, B2.out⟩
        · have ht : (wrap64 (x / 2 ^ by_.toNat * 2 ^ by_.toNat) != x) = false := by
            rw [bne, show wrap64 (x / 2 ^ by_.toNat * 2 ^ by_.toNat) = upS by_ (dn by_ x) from rfl, hq]; rfl
          have HQ := Lib.hid hq
          clear hq
          go_wp2_with fail
          go_roundw
          case rel => exact ⟨k + 1, by omega, by go_num, R2, B2, Lib.hid (fun j hj => by
            by_cases hjk : j = k
            · subst hjk; rw [← HX.out]; exact HQ.out
            · exact hok.out j (by omega))⟩
          case measure => simp [intOf]; omega
      · subst hn
        have hkn : k = xs.length := by omega
        have E : Hid (downF xs by_ = (xs.map (dn by_), 0)) := Lib.hid (by unfold downF; rw [HM.out, down_yes (fun j hj => hok.out j (by omega))]; rfl)
        have R2 : Hid (RI wr W.heap.size (.slice Av xs.length cv) (xs.map (dn by_))) := Lib.hid (by
          have := hR.out
          rw [List.take_of_length_le (by omega), List.drop_eq_nil_of_le (by omega), List.append_nil] at this
          exact this)
        have HK := Lib.hid hkn
        clear hkn
        go_wp2_with fail
        go_ret2
        exact ⟨.slice Av xs.length cv, by rw [E.out]; rfl, by rw [E.out]; exact R2.out, hB.out⟩
end Go.Proofs.YtakjcfndinnffaaDoor.PSh
