/- TokenFar: how far back, and how long, a match may be. Closed. -/
import Derived.Test.YtcdmnddmaeileaaPureTokenRuns
import Derived.Test.YtcdmnddmaeileaaPTokenx7
namespace Go.Proofs.Ytcdmnddmaeileaa.PToken
open Go.RowKit Go.Proofs.YtcdmnddmaeileaaW.PrintWords Go.Proofs.YtcdmnddmaeileaaW.PrintLast Go.Proofs.YtcdmnddmaeileaaW.PrintMore Go.Proofs.Ytcdmnddmaeileaa.Pb
set_option linter.unusedVariables false
set_option linter.unusedSimpArgs false
/-- A b, and then a's. -/
def ba (n : Nat) : List Int := 98 :: List.replicate n 97
theorem ba_length (n : Nat) : (ba n).length = n + 1 := by rw [ba, List.length_cons, List.length_replicate]
theorem ba_at (n i : Nat) (h0 : 1 ≤ i) (h : i ≤ n) (r : List Int) : (ba n ++ r).getD i 0 = 97 := by
  obtain ⟨i, rfl⟩ : ∃ m, i = m + 1 := ⟨i - 1, by omega⟩
  rw [List.getD_eq_getElem?_getD, List.getElem?_append_left (by rw [ba_length]; omega), ba, List.getElem?_cons_succ, List.getElem?_replicate, if_pos (by omega)]
  rfl
theorem ba_more (n : Nat) : ba n ++ [97] = ba (n + 1) := by rw [ba, ba, List.cons_append, List.replicate_succ']
theorem ba_grow (n : Nat) (hn : 1 ≤ n) : ∀ j, grow 1 j (ba n) = ba (n + j)
  | 0 => rfl
  | j + 1 => by
    rw [grow, ba_grow n hn j, ba_length]
    have h := ba_at (n + j) (n + j) (by omega) (Nat.le_refl _) []
    rw [List.append_nil] at h
    rw [show n + j + 1 - 1 = n + j by omega, h, ba_more, Nat.add_assoc]
theorem ba_far (n : Nat) (hn : 2 ≤ n) : grow (n + 1) 3 (ba n) = ba n ++ [98, 97, 97] := by
  have e1 : grow (n + 1) 1 (ba n) = ba n ++ [98] := by
    rw [grow, grow, ba_length, Nat.sub_self]
    rfl
  have e2 : grow (n + 1) 2 (ba n) = ba n ++ [98, 97] := by
    rw [grow, e1, List.length_append, ba_length, List.length_singleton, show n + 1 + 1 - (n + 1) = 1 by omega, ba_at n 1 (by omega) (by omega), List.append_assoc]
    rfl
  rw [grow, e2, List.length_append, ba_length, show n + 1 + ([98, 97] : List Int).length - (n + 1) = 2 by simp, ba_at n 2 (by omega) (by omega), List.append_assoc]
  rfl
def tM : S23 := ⟨2, 0, 258, 1, 0⟩
theorem far_step (n : Nat) (hn : 1 ≤ n) (h : n + 259 ≤ 40000) (q : St) (hq : q.out = ba n) (rest : List S23) : ∃ q', q'.out = ba (n + 258) ∧ textR (tM :: rest) 40000 q = textR rest 40000 q' := by
  have hs : stepT q tM = some ⟨grow 1 258 q.out, (front q.a q.b q.c q.d 1).1, (front q.a q.b q.c q.d 1).2.1, (front q.a q.b q.c q.d 1).2.2.1, (front q.a q.b q.c q.d 1).2.2.2⟩ := by
    rw [tM, step_match, if_pos ((okD_iff 1 258 q.out.length).mpr (by rw [hq, ba_length]; omega))]
    rfl
  refine ⟨⟨grow 1 258 q.out, (front q.a q.b q.c q.d 1).1, (front q.a q.b q.c q.d 1).2.1, (front q.a q.b q.c q.d 1).2.2.1, (front q.a q.b q.c q.d 1).2.2.2⟩, ?_, ?_⟩
  · show grow 1 258 q.out = _
    rw [hq, ba_grow n hn]
  · rw [textR, hs]
    show (if (((grow 1 258 q.out).length : Nat) : Int) > 40000 then ((⟨#[]⟩ : ByteArray), (62 : Int)) else _) = _
    rw [if_neg]
    rw [hq, ba_grow n hn, ba_length]
    omega
set_option maxRecDepth 100000 in
theorem far_many : ∀ (j n : Nat) (q : St) (rest : List S23), 1 ≤ n → n + 258 * j + 1 ≤ 40000 → q.out = ba n → ∃ q', q'.out = ba (n + 258 * j) ∧ textR (List.replicate j tM ++ rest) 40000 q = textR rest 40000 q'
  | 0, n, q, rest, hn, h, hq => ⟨q, hq, rfl⟩
  | j + 1, n, q, rest, hn, h, hq => by
    obtain ⟨q1, h1, e1⟩ := far_step n hn (by omega) q hq (List.replicate j tM ++ rest)
    obtain ⟨q2, h2, e2⟩ := far_many j (n + 258) q1 rest (by omega) (by omega) h1
    refine ⟨q2, by rw [h2]; congr 1; omega, ?_⟩
    rw [List.replicate_succ, List.cons_append, e1, e2]
def two : List S23 := [⟨1, 98, 0, 0, 0⟩, ⟨1, 97, 0, 0, 0⟩]
theorem far_front (rest : List S23) : ∃ q : St, q.out = ba 32767 ∧ textR ((two ++ List.replicate 127 tM) ++ rest) 40000 st0 = textR rest 40000 q := by
  have e0 : ∀ r, textR (two ++ r) 40000 st0 = textR r 40000 ⟨ba 1, 0, 0, 0, 0⟩ := fun r => rfl
  obtain ⟨q, h, e⟩ := far_many 127 1 ⟨ba 1, 0, 0, 0, 0⟩ rest (Nat.le_refl _) (by decide) rfl
  exact ⟨q, h, by rw [List.append_assoc, e0, e]⟩
theorem far_yes : textR ((two ++ List.replicate 127 tM) ++ [⟨2, 0, 3, 32768, 0⟩]) 40000 st0 = (strOfNums (ba 32767 ++ [98, 97, 97]), 0) := by
  obtain ⟨q, hq, e⟩ := far_front [⟨2, 0, 3, 32768, 0⟩]
  have hl : q.out.length = 32768 := by rw [hq, ba_length]
  have hg : grow (32768 : Int).toNat (3 : Int).toNat q.out = ba 32767 ++ [98, 97, 97] := by rw [hq]; exact ba_far 32767 (by decide)
  have hgl : (ba 32767 ++ [98, 97, 97]).length = 32771 := by rw [List.length_append, ba_length]; rfl
  rw [e, textR, step_match, if_pos ((okD_iff 32768 3 q.out.length).mpr (by rw [hl]; decide))]
  simp only
  rw [hg, if_neg (by rw [hgl]; decide), textR]
theorem far_no : textR ((two ++ List.replicate 127 tM ++ [⟨1, 97, 0, 0, 0⟩]) ++ [⟨2, 0, 3, 32769, 0⟩]) 40000 st0 = (⟨#[]⟩, 4) := by
  obtain ⟨q, hq, e⟩ := far_front ([⟨1, 97, 0, 0, 0⟩] ++ [⟨2, 0, 3, 32769, 0⟩])
  have hl : q.out.length = 32768 := by rw [hq, ba_length]
  have hs : stepT q ⟨1, 97, 0, 0, 0⟩ = some ⟨q.out ++ [97], q.a, q.b, q.c, q.d⟩ := by
    unfold stepT
    rw [if_pos rfl, if_pos ⟨rfl, rfl, rfl⟩]
  rw [List.append_assoc, e, List.singleton_append, textR, hs]
  show (if (((q.out ++ [97]).length : Nat) : Int) > 40000 then ((⟨#[]⟩ : ByteArray), (62 : Int)) else textR [⟨2, 0, 3, 32769, 0⟩] 40000 ⟨q.out ++ [97], q.a, q.b, q.c, q.d⟩) = _
  rw [List.length_append, hl, List.length_singleton, if_neg (by decide), textR, step_match, if_neg]
  intro h
  have := ((okD_iff _ _ _).mp h).2.2.2.1
  omega
theorem far_end (x : List Int) (hx : x.length = 32768) : (strOfNums (x ++ [98, 97, 97])).size = 32771 ∧ ((strOfNums (x ++ [98, 97, 97])).extract 32768 (strOfNums (x ++ [98, 97, 97])).size).toList = ([98, 97, 97] : List UInt8) := by
  have e : strOfNums (x ++ [98, 97, 97]) = strOfNums x ++ ⟨#[98, 97, 97]⟩ := strOfNums_append x ⟨#[98, 97, 97]⟩
  have hs : (strOfNums x).size = 32768 := by rw [size_nums, hx]
  rw [e]
  refine ⟨by rw [ByteArray.size_append, hs]; rfl, ?_⟩
  have h := ext_app_right (strOfNums x) ⟨#[98, 97, 97]⟩
  rw [hs] at h
  rw [h, ByteArray.toList_eq]
set_option maxRecDepth 100000 in
theorem far_l1 (k : Nat) : hamperlaw14_TokenFar.l1 (k + 1) (two ++ List.replicate 127 tM) 32768 = some true := by
  have hl : (two ++ List.replicate 127 tM).length = 129 := by rw [List.length_append, List.length_replicate]; rfl
  have h1 := far_yes
  have h2 := far_no
  obtain ⟨z1, z2⟩ := far_end (ba 32767) (by rw [ba_length])
  generalize strOfNums (ba 32767 ++ [98, 97, 97]) = T at h1 z1 z2
  generalize two ++ List.replicate 127 tM = L at hl h1 h2
  have t1 : token_Text.f (L ++ [⟨2, 0, 3, 32768, 0⟩]) 40000 = some (T, 0) := (text_f _ _ (by rw [List.length_append, hl]; decide)).trans (congrArg some h1)
  have t2 : token_Text.f (L ++ [⟨1, 97, 0, 0, 0⟩] ++ [⟨2, 0, 3, 32769, 0⟩]) 40000 = some (⟨#[]⟩, 4) := (text_f _ _ (by rw [List.length_append, List.length_append, hl]; decide)).trans (congrArg some h2)
  clear h1 h2
  simp only [hamperlaw14_TokenFar.l1]
  refine ite_no (by decide) (bind_eq rfl (ite_yes (by simp; omega) (bind_eq rfl (ite_yes (by simp; omega) (bind_eq t1 (ite_yes (by omega) (bind_eq rfl (ite_yes (by simp; omega) (bind_eq t2 ?_)))))))))
  refine ite_yes rfl (ite_yes ?_ (ite_yes ?_ (ite_yes z2 (ite_yes rfl rfl))))
  · show ((T.size : Nat) : Int) = 32771
    omega
  · show (32768 : Int) ≤ ((T.size : Nat) : Int)
    omega
theorem far_l0 : ∀ (d j k : Nat), j + d = 127 → d + 2 ≤ k → hamperlaw14_TokenFar.l0 k (two ++ List.replicate j tM) (2 + 258 * (j : Int)) = some true := by
  intro d
  induction d with
  | zero =>
    intro j k hj hk
    obtain ⟨k, rfl⟩ : ∃ m, k = m + 2 := ⟨k - 2, by omega⟩
    obtain rfl : j = 127 := by omega
    have e : (2 + 258 * ((127 : Nat) : Int)) = 32768 := by decide
    have hf := far_l1 k
    rw [e]
    generalize two ++ List.replicate 127 tM = L at hf
    rw [hamperlaw14_TokenFar.l0]
    exact ite_no (by rw [wrap_id (by decide) (by decide)]; decide) hf
  | succ d ih =>
    intro j k hj hk
    obtain ⟨k, rfl⟩ : ∃ m, k = m + 1 := ⟨k - 1, by omega⟩
    have hl : (two ++ List.replicate j tM).length = 2 + j := by rw [List.length_append, List.length_replicate]; rfl
    have hw : wrap64 (2 + 258 * (j : Int) + 258) = 2 + 258 * ((j + 1 : Nat) : Int) := by rw [wrap_id (by omega) (by omega)]; omega
    have e : two ++ List.replicate j tM ++ [(⟨2, 0, 258, 1, 0⟩ : S23)] = two ++ List.replicate (j + 1) tM := by rw [List.append_assoc, List.replicate_succ']; rfl
    rw [hamperlaw14_TokenFar.l0, hw, e]
    exact ite_yes (by omega) (ite_yes (by rw [hl]; omega) (ih (j + 1) k (by omega) (by omega)))
theorem tokenFar : hamperlaw14_TokenFar.Pure := by
  refine ⟨200, ?_⟩
  unfold hamperlaw14_TokenFar.f
  exact far_l0 127 0 200 (by decide) (by decide)
end Go.Proofs.Ytcdmnddmaeileaa.PToken
namespace Go.Proofs.Ytcdmnddmaeileaa.Pure
theorem TokenFar : Go.Proofs.Ytcdmnddmaeileaa.PToken.hamperlaw14_TokenFar.Pure := Go.Proofs.Ytcdmnddmaeileaa.PToken.tokenFar
end Go.Proofs.Ytcdmnddmaeileaa.Pure
