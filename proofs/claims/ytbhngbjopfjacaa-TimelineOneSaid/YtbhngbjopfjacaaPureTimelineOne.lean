/- The plain law TimelineOne over the printed functions; no condition but the numbers' kinds and the lists' lengths. -/
import Derived.Test.YtbhngbjopfjacaaPS15x18
import Derived.Test.YtbhngbjopfjacaaTL
namespace Go.Proofs.Ytbhngbjopfjacaa.Pure
open Go.RowKit Go.Proofs.Ytbhngbjopfjacaa.PS15 Go.Proofs.YtbhngbjopfjacaaW.PrintWords Go.Proofs.YtbhngbjopfjacaaW.PrintLast

theorem sane_f {k : Nat} (hk : 1000 ≤ k) : airchecklaw15_sane.f k = some true :=
  at_rounds airchecklaw15_sane.mono hk (by
    unfold airchecklaw15_sane.f
    exact if_pos ⟨by kernel_rfl, by kernel_rfl, by kernel_rfl, by kernel_rfl, by kernel_rfl, by kernel_rfl, by kernel_rfl, by kernel_rfl, by kernel_rfl, by kernel_rfl, by kernel_rfl, by kernel_rfl, by kernel_rfl, by kernel_rfl, by kernel_rfl, by kernel_rfl, by kernel_rfl, by kernel_rfl, by kernel_rfl, by kernel_rfl, by kernel_rfl⟩)
theorem one_l1 (l : List S25) (e s ow er x13 : Int) (sp : List S45) (hsp : ∀ x ∈ sp, 0 ≤ x.f0 ∧ x.f0 < x.f1 ∧ x.f1 ≤ 400) (hn : sp.length ≤ 1000) (d : Nat) : ∀ (k i : Nat) (x12 : Int), i + d = sp.length → d + 1 ≤ k → 0 ≤ x12 → x12 ≤ 1000000000 - 400 * d →
    airchecklaw15_TimelineOne.l1 k l e s ow er x12 x13 sp (i : Int) = airchecklaw15_TimelineOne.l0 (k - (d + 1)) l e s ow er (x12 + lenP (sp.drop i)) (wrap64 (x13 + 1)) := by
  induction d with
  | zero =>
    intro k i x12 hi hk h0 h1
    obtain ⟨k, rfl⟩ : ∃ m, k = m + 1 := ⟨k - 1, by omega⟩
    simp only [airchecklaw15_TimelineOne.l1]
    rw [if_neg (by omega), List.drop_eq_nil_of_le (by omega)]
    simp [lenP]
  | succ d ih =>
    intro k i x12 hi hk h0 h1
    obtain ⟨k, rfl⟩ : ∃ m, k = m + 1 := ⟨k - 1, by omega⟩
    have hlt : i < sp.length := by omega
    have hx := hsp _ (List.getElem_mem hlt)
    simp only [airchecklaw15_TimelineOne.l1]
    rw [if_pos (by omega), if_pos (by omega), rd45 hlt, tl_wrap_up hlt (by omega), wrap_id (x := x12 + _) (by omega) (by omega), wrap_id (x := x12 + _ - _) (by omega) (by omega), ih k (i + 1) _ (by omega) (by omega) (by omega) (by omega), List.drop_eq_getElem_cons hlt]
    have e1 : lenP (sp[i] :: sp.drop (i + 1)) = ((sp[i]).f1 - (sp[i]).f0) + lenP (sp.drop (i + 1)) := by unfold lenP; rw [List.map_cons, List.sum_cons]
    have e2 : k + 1 - (d + 1 + 1) = k - (d + 1) := by omega
    rw [e1, e2]
    congr 1
    omega
theorem one_l0 {l : List S25} {e s ow : Int} (h : Tl l e) (hl : l.length ≤ 41) (he : e ≤ 400) (ho : own l s = some ow) (hs : ∀ x ∈ l, 0 ≤ x.f2 ∧ x.f2 < (8 : Nat)) (d : Nat) : ∀ (k o : Nat), o + d = 8 → d * 60 + 100 ≤ k → 
    airchecklaw15_TimelineOne.l0 k l e s ow 0 (sumO l o) (o : Int) = some true := by
  induction d with
  | zero =>
    intro k o hi hk
    obtain ⟨k, rfl⟩ : ∃ m, k = m + 1 := ⟨k - 1, by omega⟩
    obtain rfl : o = 8 := by omega
    simp only [airchecklaw15_TimelineOne.l0]
    rw [if_neg (by omega), if_true, sumO_all h.cont hs]
    simp
  | succ d ih =>
    intro k o hi hk
    obtain ⟨k, rfl⟩ : ∃ m, k = m + 2 := ⟨k - 2, by omega⟩
    have hb : ∀ x ∈ ownedP l (o : Int), 0 ≤ x.f0 ∧ x.f0 < x.f1 ∧ x.f1 ≤ 400 := fun x hx => by
      have := ownedP_in h.cont _ x hx
      omega
    have hlen := ownedP_len l (o : Int)
    have hsum : ∀ n, n ≤ 8 → 0 ≤ sumO l n ∧ sumO l n ≤ 20000 * n := by
      intro n hn
      induction n with
      | zero => simp [sumO]
      | succ n ihn =>
        have h1 := ihn (by omega)
        have h2 := lenP_le (ownedP l (n : Int)) 400 (by omega) (fun x hx => by have := ownedP_in h.cont _ x hx; omega)
        have h3 := ownedP_len l (n : Int)
        simp only [sumO]
        omega
    have hso := hsum o (by omega)
    simp only [airchecklaw15_TimelineOne.l0]
    rw [if_pos (by omega), owned_f h (by omega) _ (by omega), Option.bind_some, if_pos rfl, in_f (ownedP l (o : Int)) s (by omega) (by omega), Option.bind_some, inB_owned h.cont, ho]
    have e1 : (decide (some ow = some (o : Int)) != ((o : Int) == ow)) = false := by
      by_cases c : ow = (o : Int)
      · simp [c]
      · have c' : ¬ (o : Int) = ow := fun h => c h.symm
        simp [c, c']
    rw [e1]
    simp only [airchecklaw15_TimelineOne.j2]
    rw [if_neg (by simp)]
    have := one_l1 l e s ow 0 (o : Int) (ownedP l (o : Int)) hb (by omega) (ownedP l (o : Int)).length k 0 (sumO l o) (by omega) (by omega) hso.1 (by omega)
    rw [show ((0 : Nat) : Int) = 0 from rfl] at this
    rw [this, wrap_id (by omega) (by omega)]
    have := ih (k - ((ownedP l (o : Int)).length + 1)) (o + 1) (by omega) (by omega)
    simpa [sumO] using this
theorem TimelineOne : airchecklaw15_TimelineOne.Pure := by
  intro a0 l1 a2 h0 h1 h2
  refine ⟨1000, ?_⟩
  unfold airchecklaw15_TimelineOne.f
  have he := endP_in a0
  obtain ⟨A1, A2, A3⟩ := made_tl a0 l1
  have p1 := pickP_in (a := a2) (n := endP a0) (by omega)
  have hl1 : l1.length ≤ 9223372036854775806 := by have := h1.2.1; omega
  have e0 : wrap64 (1 + pickP a0 400) = endP a0 := wrap_id (by unfold endP at he; omega) (by unfold endP at he; omega)
  obtain ⟨o, r1, r2⟩ := at_tl (t := pickP a2 (endP a0)) A1 (by omega) p1.1 p1.2 (by omega)
  rw [sane_f (by omega), Option.bind_some, if_pos rfl, made_f (I64.of h0) l1 hl1 h1.2.2 (by omega), Option.bind_some, end_tl A1 (by omega) (by omega), Option.bind_some, pick_f (I64.of h0) (by omega), Option.bind_some, e0, if_pos rfl, valid_tl A1 (by omega) (by omega), Option.bind_some]
  simp only [airchecklaw15_TimelineOne.j0]
  rw [if_neg (by simp), pick_f (I64.of h2) (by omega), Option.bind_some, r2, Option.bind_some]
  refine one_l0 A1 A2 he.2 r1 (fun x hx => ?_) 8 999 0 rfl (by omega)
  have := A3 _ _ (own_span A1.cont x hx).1
  omega

end Go.Proofs.Ytbhngbjopfjacaa.Pure
