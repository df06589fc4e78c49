/- 'ContextRanges' of chapter 12: contexts of bits 1, a 0, bits 1. No condition. -/
import Derived.Test.YtjdffodhbejnjaaPCtxx3
import Derived.Test.YtjdffodhbejnjaaCtxRef
namespace Go.Proofs.Ytjdffodhbejnjaa.Pure
open Go.RowKit Go.Proofs.Ytjdffodhbejnjaa.PCtx Go.Proofs.YtjdffodhbejnjaaW.PrintWords Go.Proofs.YtjdffodhbejnjaaW.PrintLast
set_option linter.unusedVariables false
set_option linter.unusedSimpArgs false
open Go.Proofs.Ytjdffodhbejnjaa.PCt (ctxF ctxOk allB isBit ones lastOne)
theorem of_val2 {b : Int} {l : List Int} (h : l.length ≤ 17592186044416) {r : Int × Int × Int × Int} (e : ctxF b l = r) : context_Of.f b l = some r := by
  unfold context_Of.f; rw [if_pos h, e]
theorem awakeC2 : descantlaw12_awake.f = some true := by decide +kernel
theorem ones_rep (k : Nat) (t : List Int) : ones (List.replicate k 1 ++ t) = k + ones t := by
  induction k with
  | zero => simp
  | succ k ih => rw [List.replicate_succ, List.cons_append]; show (if (1 : Int) = 1 then _ else _) = _; rw [if_pos rfl, ih]; omega
theorem all_rep (k : Nat) (t : List Int) (h : allB t = true) : allB (List.replicate k 1 ++ t) = true := by
  unfold allB at h ⊢
  rw [List.all_append, h, Bool.and_true, List.all_eq_true]
  intro x hx
  rw [(List.mem_replicate.1 hx).2]; decide
theorem last_app (l t : List Int) (h : 0 < t.length) : lastOne (l ++ t) = lastOne t := by
  unfold lastOne rd
  rw [decide_eq_decide, List.length_append, show (((l.length + t.length : Nat) : Int) - 1).toNat = l.length + (t.length - 1) by omega, show ((t.length : Int) - 1).toNat = t.length - 1 by omega]
  simp only [List.getD_eq_getElem?_getD]
  rw [List.getElem?_append_right (by omega), show l.length + (t.length - 1) - l.length = t.length - 1 by omega]
  omega
theorem last_rep (m : Nat) (t : List Int) (ht : lastOne t = false) : lastOne (t ++ List.replicate m 1) = decide (0 < m) := by
  cases m with
  | zero => simpa using ht
  | succ m =>
    rw [show List.replicate (m + 1) (1 : Int) = List.replicate m 1 ++ [1] from List.replicate_succ', ← List.append_assoc, last_app _ _ (by simp)]
    simp [lastOne, rd]
theorem ctx_one (b : Int) (k : Nat) (h0 : 0 ≤ b) (h1 : b ≤ 31) (hk : k ≤ 31) : ctxF b (List.replicate k 1) = ((k : Int), 2 * b, (k : Int) + (if 0 < k then 32 else 0), 0) := by
  have e := ones_rep k []
  have a := all_rep k [] rfl
  have l := last_rep k [] rfl
  rw [List.append_nil] at e a
  rw [List.nil_append] at l
  have e2 : ones (List.replicate k 1) = k := e
  unfold ctxF ctxOk
  rw [if_pos (by rw [a, decide_eq_true (by rw [List.length_replicate]; omega)]; rfl), e2, l, List.length_replicate, if_neg (by omega), if_neg (by omega)]
  by_cases hk0 : 0 < k
  · rw [if_pos (decide_eq_true hk0), if_pos hk0]
    simp only [Prod.mk.injEq, and_true]; omega
  · rw [if_neg (by simpa using hk0), if_neg hk0]
    simp only [Prod.mk.injEq, and_true]; omega
theorem ctx_two (b : Int) (k m : Nat) (h0 : 0 ≤ b) (h1 : b ≤ 31) (hk : k ≤ 15) (hm : m ≤ 7) : ctxF b (List.replicate k 1 ++ [0] ++ List.replicate m 1) = ((k : Int) + 32, 2 * b + 1, (k : Int) + 1 + m + (if 0 < m then 32 else 0), 0) := by
  have e := ones_rep k (0 :: List.replicate m 1)
  have a := all_rep k (0 :: List.replicate m 1) (by have := all_rep m [] rfl; rw [List.append_nil] at this; exact this)
  have l := last_rep m (List.replicate k 1 ++ [0]) (by rw [last_app _ _ (by simp)]; decide)
  rw [List.append_assoc] at l ⊢
  rw [show ([0] : List Int) ++ List.replicate m 1 = 0 :: List.replicate m 1 from rfl] at l ⊢
  have e2 : ones (List.replicate k 1 ++ 0 :: List.replicate m 1) = k := e
  have hlen : (List.replicate k (1 : Int) ++ 0 :: List.replicate m 1).length = k + 1 + m := by simp; omega
  unfold ctxF ctxOk
  rw [if_pos (by rw [a, decide_eq_true (by omega)]; rfl), e2, l, hlen, if_pos (by omega), if_pos (by omega)]
  by_cases hm0 : 0 < m
  · rw [if_pos (decide_eq_true hm0), if_pos hm0]
    simp only [Prod.mk.injEq, and_true]; omega
  · rw [if_neg (by simpa using hm0), if_neg hm0]
    simp only [Prod.mk.injEq, and_true]; omega
theorem rep_snoc (t : List Int) (j : Nat) : t ++ List.replicate j 1 ++ [1] = t ++ List.replicate (j + 1) 1 := by rw [List.replicate_succ', List.append_assoc]
theorem loop0 (K : Nat) (b m : Int) (k : Nat) (hk : k ≤ 15) (d : Nat) : ∀ j : Nat, j + d = k → descantlaw12_ContextRanges.l0 (K + d + 1) b k m (List.replicate j 1) j = (context_Of.f b (List.replicate k 1)).bind fun t => descantlaw12_ContextRanges.l1 K b k m (List.replicate k 1 ++ [0]) t.2.2.2 0 t.1 t.2.1 t.2.2.1 := by
  induction d with
  | zero =>
    intro j hj
    simp only [descantlaw12_ContextRanges.l0]
    rw [if_neg (by omega), show j = k by omega]
    congr 1
    funext t
    rw [if_pos (by rw [List.length_replicate]; omega)]
  | succ d ih =>
    intro j hj
    obtain ⟨n, hn⟩ : ∃ n, n = K + d + 1 := ⟨_, rfl⟩
    rw [show K + (d + 1) + 1 = n + 1 by omega]
    simp only [descantlaw12_ContextRanges.l0]
    have := ih (j + 1) (by omega)
    have e := rep_snoc [] j
    rw [List.nil_append, List.nil_append] at e
    rw [if_pos (by omega), if_pos (by rw [List.length_replicate]; omega), Num.w64 (by omega) (by omega), e, hn, show (j : Int) + 1 = ((j + 1 : Nat) : Int) by omega]
    exact this
theorem loop1 (K : Nat) (b k e x y z : Int) (t : List Int) (ht : t.length ≤ 100) (m : Nat) (hm : m ≤ 7) (d : Nat) : ∀ j : Nat, j + d = m → descantlaw12_ContextRanges.l1 (K + d + 1) b k m (t ++ List.replicate j 1) e j x y z = (context_Of.f b (t ++ List.replicate m 1)).bind fun q => if k > 0 then descantlaw12_ContextRanges.j2 K b k m e q.2.2.2 32 x y z q.1 q.2.1 q.2.2.1 else descantlaw12_ContextRanges.j2 K b k m e q.2.2.2 0 x y z q.1 q.2.1 q.2.2.1 := by
  induction d with
  | zero =>
    intro j hj
    simp only [descantlaw12_ContextRanges.l1]
    rw [if_neg (by omega), show j = m by omega]
  | succ d ih =>
    intro j hj
    obtain ⟨n, hn⟩ : ∃ n, n = K + d + 1 := ⟨_, rfl⟩
    rw [show K + (d + 1) + 1 = n + 1 by omega]
    simp only [descantlaw12_ContextRanges.l1]
    have := ih (j + 1) (by omega)
    rw [if_pos (by omega), if_pos (by rw [List.length_append, List.length_replicate]; omega), Num.w64 (by omega) (by omega), rep_snoc, hn, show (j : Int) + 1 = ((j + 1 : Nat) : Int) by omega]
    exact this
theorem ContextRanges : descantlaw12_ContextRanges.Pure := by
  intro a0 a1 a2 w0 w1 w2
  have h0 : Go.bits .and .i64 a0 31 = a0 % 32 := Num.and_mask a0 31 5 (by omega) (by rfl)
  have h1 : Go.bits .and .i64 a1 15 = a1 % 16 := Num.and_mask a1 15 4 (by omega) (by rfl)
  have h2 : Go.bits .and .i64 a2 7 = a2 % 8 := Num.and_mask a2 7 3 (by omega) (by rfl)
  obtain ⟨b, hb⟩ : ∃ b, b = a0 % 32 := ⟨_, rfl⟩
  obtain ⟨k, hk⟩ : ∃ k : Nat, (k : Int) = a1 % 16 := ⟨(a1 % 16).toNat, by omega⟩
  obtain ⟨m, hm⟩ : ∃ m : Nat, (m : Int) = a2 % 8 := ⟨(a2 % 8).toNat, by omega⟩
  refine ⟨(1 + m + 1) + k + 1, ?_⟩
  unfold descantlaw12_ContextRanges.f
  rw [awakeC2, h0, h1, h2, ← hb, ← hk, ← hm, Option.bind_some, if_pos rfl]
  have l0 := loop0 (1 + m + 1) b m k (by omega) k 0 (by omega)
  rw [List.replicate_zero, show ((0 : Nat) : Int) = 0 from rfl] at l0
  rw [l0, of_val2 (by rw [List.length_replicate]; omega) (ctx_one b k (by omega) (by omega) (by omega)), Option.bind_some]
  have l1 := loop1 1 b k 0 k (2 * b) ((k : Int) + (if 0 < k then 32 else 0)) (List.replicate k 1 ++ [0]) (by simp; omega) m (by omega) m 0 (by omega)
  rw [List.replicate_zero, List.append_nil, show ((0 : Nat) : Int) = 0 from rfl] at l1
  simp only []
  rw [l1, of_val2 (by simp; omega) (ctx_two b k m (by omega) (by omega) (by omega) (by omega)), Option.bind_some]
  simp only [descantlaw12_ContextRanges.j2, descantlaw0_Num.f, Option.bind_some]
  rw [Num.w64 (n := 2 * b) (by omega) (by omega), Num.w64 (n := (k : Int) + 32) (by omega) (by omega), Num.w64 (n := (k : Int) + 0) (by omega) (by omega), Num.w64 (n := 32 + (k : Int)) (by omega) (by omega), Num.w64 (n := 2 * b + 1) (by omega) (by omega), Num.w64 (n := (k : Int) + 1) (by omega) (by omega), Num.w64 (n := (k : Int) + 1 + m) (by omega) (by omega), Num.w64 (n := (k : Int) + 1 + m + 32) (by omega) (by omega), Num.w64 (n := (k : Int) + 1 + m + 0) (by omega) (by omega)]
  by_cases c1 : 0 < k <;> by_cases c2 : 0 < m <;> simp [c1, c2, Int.add_comm] <;> omega
end Go.Proofs.Ytjdffodhbejnjaa.Pure
