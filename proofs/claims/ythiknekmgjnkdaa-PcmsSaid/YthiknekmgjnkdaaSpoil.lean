/- A list of lists of the call's own is written over: only what was made behind a given world changes. -/
import Derived.Test.YthiknekmgjnkdaaPAllx9
import Derived.Test.YthiknekmgjnkdaaNum
import Derived.Lib.Hide
import Derived.Outline
namespace Go.Proofs.Ythiknekmgjnkdaa.PAll
open Go Go.RowKit Go.Proofs.YthiknekmgjnkdaaW.PrintWords Go.Proofs.YthiknekmgjnkdaaW.PrintMore Go.Proofs.YthiknekmgjnkdaaW.PrintLast
set_option linter.unusedVariables false
set_option linter.unusedSimpArgs false
theorem spoil_loopL (k : Nat) (n d : Nat) : ∀ (i : Nat) (l : List Int), l.length = n → n ≤ 17592186044416 → i + d = n → ∃ r, descantlaw0_SpoilInts.l0 (k + d + 1) l i = some r ∧ r.length = n := by
  induction d with
  | zero =>
    intro i l hl hn hi
    simp only [descantlaw0_SpoilInts.l0]
    rw [if_neg (by omega)]
    exact ⟨l, rfl, hl⟩
  | succ d ih =>
    intro i l hl hn hi
    obtain ⟨m, hm⟩ : ∃ m, m = k + d + 1 := ⟨_, rfl⟩
    rw [show k + (d + 1) + 1 = m + 1 by omega]
    simp only [descantlaw0_SpoilInts.l0]
    rw [hm, if_pos (by omega), if_pos (by omega), Num.w64 (n := (i : Int) + 1) (by omega) (by omega)]
    have := ih (i + 1) (l.set (i : Int).toNat (wrap64 (-9 - rd l (i : Int)))) (by rw [List.length_set]; exact hl) hn (by omega)
    rw [show ((i + 1 : Nat) : Int) = (i : Int) + 1 by omega] at this
    exact this
theorem spoil_someL (l : List Int) (hl : l.length ≤ 17592186044416) : ∃ r, descantlaw0_SpoilInts.f (l.length + 1) l = some r ∧ r.length = l.length := by
  unfold descantlaw0_SpoilInts.f
  have := spoil_loopL 0 l.length l.length 0 l rfl hl (by omega)
  rw [Nat.zero_add] at this
  exact this
abbrev SL (w : World) (base : Nat) (ok : Nat → Prop) (v : Value) (rows : List (List Int)) : Prop := Kd.S (Kd.slice 3 (Kd.int .i64)) 44 w base ok v rows
/-- One row has been written over. -/
theorem spoil_row {w w' : World} {base g n cap : Nat} {rows : List (List Int)} {i : Nat} {v : Value} {r : List Int} {ok oki : Nat → Prop} (hH : Kd.H (Kd.slice 3 (Kd.int .i64)) 44 w base ok (.slice (some ⟨g, 0, none⟩) n cap) rows (i : Int) oki [v]) (hk : Kept w w' oki) (hv : ∀ k, v.ownBlock = some k → oki k) (hr : (Kd.int .i64).R 3 w' base (fun k_ => oki k_ ∨ w.heap.size ≤ k_) v r) : SL w' base ok (.slice (some ⟨g, 0, none⟩) n cap) (rows.set i r) := by
  have h2 := Kd.H_step hH (fun k _ hn hlt => hk.2 k hlt hn)
  have h3 := Kd.R_tight (d := Kd.int .i64) rfl hr
  have h4 := Kd.H_back h2 (x' := r) (okp := fun k => some k = v.ownBlock) ⟨v, rfl, h3⟩ (fun k hk => hv k hk.symm)
  rw [Int.toNat_natCast] at h4
  exact h4
set_option maxHeartbeats 4000000 in
theorem spoilLists_c (A : Option Addr) (c0 : Nat) (rows : List (List Int)) (w0 w : World) (ok : Nat → Prop) (hB : Below w0.heap.size w0 w) (hS : SL w w0.heap.size ok (.slice A rows.length c0) rows) (hb : rows.length ≤ 17592186044416) (hbs : ∀ xs ∈ rows, xs.length ≤ 17592186044416) :
    Calls Try.prog 20 #[.slice A rows.length c0] w fun e w' => e = .returned (.tuple #[]) ∧ Below w0.heap.size w0 w' ∧ Kept w w' ok := by
  obtain ⟨n, hn⟩ : ∃ n, n = rows.length := ⟨_, rfl⟩
  rw [← hn] at hS hb ⊢
  have HS := Lib.hid hS
  have HB := Lib.hid hB
  have HN := Lib.hid hn.symm
  have HBS := Lib.hid hbs
  clear hS hB hn hbs
  go_enter Try.func20, Try.ntmps20
  go_wp2_with fail
  go_loopw [2] (fun i wr => ∃ (k : Nat) (rs : List (List Int)), k ≤ n ∧ i = .int .i64 k ∧ Hid (rs.length = n) ∧ Hid (∀ xs ∈ rs, xs.length ≤ 17592186044416) ∧ Hid (SL wr w0.heap.size ok (.slice A n c0) rs) ∧ Hid (Below w0.heap.size w0 wr) ∧ Hid (Kept w wr ok)) (fun i _ => n - (intOf i).toNat)
  case atStart => exact ⟨0, rows, by omega, rfl, HN, HBS, HS, HB, Lib.hid (Kept.refl _ _)⟩
  case round =>
    obtain ⟨k, rs, hk, rfl, hl, hbs, hS, hB, hK⟩ := hrel
    by_cases hlt : k < n
    · obtain ⟨g, cap, hv, _⟩ := Kd.S_form hS.out (by have := hl.out; omega)
      obtain ⟨rfl, -, rfl⟩ : A = some ⟨g, 0, none⟩ ∧ n = rs.length ∧ c0 = cap := by simpa using hv
      clear hv
      obtain ⟨oki, c, hc1, hM, hcc, hfr, hok, hH⟩ := Kd.S_elem hS.out [] (k : Int) (by omega) (by omega)
      obtain ⟨v, rfl, hR⟩ := hM
      have hx : wr.cell? ⟨g, k, none⟩ = some v := by have := hcc 0 v rfl; rw [Int.toNat_natCast] at this; have h2 : wr.cell? ⟨g, k * 1 + 0, none⟩ = some v := this; simpa using h2
      rw [Int.toNat_natCast] at hR
      have hm : rs.getD k [] ∈ rs := by
        rw [List.getD_eq_getElem?_getD, List.getElem?_eq_getElem (by have := hl.out; omega)]
        exact List.getElem_mem _
      obtain ⟨r, hr, hrl⟩ := spoil_someL (rs.getD k []) (hbs.out _ hm)
      have HOK := Lib.hid hok
      have HR := Lib.hid hR
      have HH := Lib.hid hH
      have HRL := Lib.hid hrl
      have HM := Lib.hid hm
      have Hr := Lib.hid hr
      obtain ⟨Av, cv, rfl⟩ := Kd.R_slice hR
      clear hR hH hcc hfr hok hc1 hrl hm hr
      go_wp2_with fail
      refine (descantlaw0_SpoilInts.calls _ oki _ (rs.getD k []) r w0 wr hB.out HR.out Hr.out).mono ?_
      rintro e w2 ⟨rfl, h2, h3, h4⟩
      have B2 := Lib.hid h3
      have S2 := Lib.hid (spoil_row HH.out h4 (fun k hk => HR.out.1 k hk) h2)
      have L2 : Hid ((rs.set k r).length = n) := Lib.hid (by rw [List.length_set]; exact hl.out)
      have BS2 : Hid (∀ xs ∈ rs.set k r, xs.length ≤ 17592186044416) := Lib.hid (fun xs hx => by
        rcases List.mem_or_eq_of_mem_set hx with h | h
        · exact hbs.out _ h
        · rw [h, HRL.out]; exact hbs.out _ HM.out)
      have K2 := Lib.hid (hK.out.then_ h4 (fun k hk => .inl (HOK.out k hk).1))
      clear h2 h3 h4
      go_wp2_with fail
      go_roundw
      case rel => exact ⟨k + 1, _, by omega, by go_num, L2, BS2, S2, B2, K2⟩
      case measure => simp [intOf]; omega
    · go_wp2_with fail
      go_end0
      exact ⟨rfl, hB.out, hK.out⟩
end Go.Proofs.Ythiknekmgjnkdaa.PAll
