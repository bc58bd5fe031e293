/- The plain law FingerprintHears over the printed functions; no condition but the numbers' kinds and the lists' lengths. -/
import Derived.Test.YtgaepndbfpfniaaPFBx28
import Derived.Test.YtgaepndbfpfniaaFM
namespace Go.Proofs.Ytgaepndbfpfniaa.Pure
open Go.RowKit Go.Proofs.Ytgaepndbfpfniaa.PFB Go.Proofs.YtgaepndbfpfniaaW.PrintWords Go.Proofs.YtgaepndbfpfniaaW.PrintLast

theorem hears_end {P : List S34} {part o : List Int} {m k : Nat} {i0 i j : Nat} (hv : VP (-1) P) (h4 : P.length ≤ 20) (hi0 : i0 < P.length) (hpart : part = ((P[i0]).f1.take j).drop i) (hij : i ≤ j) (ed : Ed part o k) (hk : k ≤ m) (Ho : Hd o)
    (hloop : ∀ p ∈ P, p.f0 ≠ (P[i0]).f0 → 2 * (m : Int) < (cst part p.f1 : Int)) : fp_hears2 P o (m : Int) (P[i0]).f0 = some true := by
  obtain ⟨b, bi, bj, mb, ops, s, hb, e, B⟩ := best_f Ho hv (by omega) h4 (k := 100000) (by omega)
  have asc := (VP.asc hv).2
  have near : cst o (P[i0]).f1 ≤ k := by
    have h1 := (cst_is o (P[i0]).f1).le hij
    rw [← hpart] at h1
    have := lev_le ed.symm
    omega
  have hmb := B.least i0 hi0
  have hit : (P[b]).f0 = (P[i0]).f0 := Classical.byContradiction fun q => by
    have h1 := hloop _ (List.getElem_mem hb) q
    have h2 := cst_tri (c := (P[b]).f1) ed
    rw [B.cost] at h2
    omega
  unfold fp_hears2
  rw [e, Option.bind_some, if_pos]
  refine ⟨rfl, hit, by show (mb : Int) ≤ m; omega, ?_⟩
  by_cases c : P.length = 1
  · exact .inl ⟨c, B.one c⟩
  · obtain ⟨q, hq, hqb, hs⟩ := B.others (by omega)
    refine .inr ⟨by omega, ?_⟩
    show (m : Int) < s
    have hne : (P[q]).f0 ≠ (P[i0]).f0 := by
      rw [← hit]
      rcases Nat.lt_or_gt_of_ne hqb with h | h
      · have := asc q b hq hb h; omega
      · have := asc b q hb hq h; omega
    have h1 := hloop _ (List.getElem_mem hq) hne
    have h2 := cst_tri (c := (P[q]).f1) ed
    omega
theorem hears_stop {P : List S34} {a : Nat} {i0 : Nat} {to_ : Int} {errs : List S29} (hv : VP (-1) P) (h4 : P.length ≤ 20) (hi0 : i0 < P.length) (h16 : (P[i0]).f1.length ≤ 16) (ha : a < (P[i0]).f1.length) (hto : I64 to_) (he : ∀ x ∈ errs, I64 x.f0 ∧ I64 x.f1 ∧ I64 x.f2) :
    stop_airchecklaw36_FingerprintHears P (P[i0]).f0 (P[i0]).f1 (a : Int) to_ errs = some true := by
  have Hc := hv.pr _ (List.getElem_mem hi0)
  have p := pickP_in (a := to_) (n := ((P[i0]).f1.length : Int) - a) (by omega)
  unfold stop_airchecklaw36_FingerprintHears
  rw [pick_f hto (by omega), Option.bind_some, if_pos ⟨by omega, p.1, by omega, by omega, by omega⟩]
  obtain ⟨j, hj⟩ : ∃ j : Nat, (a : Int) + 1 + pickP to_ (((P[i0]).f1.length : Int) - a) = j := ⟨((a : Int) + 1 + pickP to_ (((P[i0]).f1.length : Int) - a)).toNat, by omega⟩
  rw [hj, Int.toNat_natCast, Int.toNat_natCast]
  obtain ⟨part, hpart⟩ : ∃ part, part = ((P[i0]).f1.take j).drop a := ⟨_, rfl⟩
  rw [← hpart]
  have Hp : Hd part := hpart ▸ Hc.hd.cut a j
  have hpl : part.length ≤ 16 := by rw [hpart]; simp; omega
  obtain ⟨o, m, k, e, hkm, ed, hm, ho, hro⟩ := spoils_ok (errs.take 4) part 0 (fun x hx => he x (List.mem_of_mem_take hx)) (by simp; omega) (by omega) (by simp; omega) Hp.2
  have hm4 : m ≤ 4 := by simp at hm; omega
  have hol : o.length ≤ 20 := by simp at ho; omega
  rw [show aircheckref36_Spoiled.f part errs = some (o, (m : Int)) by unfold aircheckref36_Spoiled.f; rw [if_pos (by omega), e]; congr 2; omega, Option.bind_some, if_pos ⟨by show (0 : Int) ≤ (m : Int); omega, by show (m : Int) ≤ 1000; omega⟩]
  obtain ⟨q, eq, hq⟩ := hloop_ok Hp (P[i0]).f0 (m : Int) P hv.pr
  rw [eq, Option.bind_some]
  cases q with
  | true => rw [if_pos rfl]
  | false =>
    rw [if_neg (by simp)]
    exact hears_end hv h4 hi0 hpart (by omega) ed hkm ⟨by show o.length ≤ 60; omega, hro⟩ (hq rfl)
theorem FingerprintHears : airchecklaw36_FingerprintHears.Pure := by
  intro l0 a1 a2 a3 l4 h0 h1 h2 h3 h4
  refine ⟨1001, ?_⟩
  obtain ⟨v1, v2, v3, v4⟩ := made_vp l0
  have v16 := made_16 l0
  have q0 : ∀ x ∈ l0, x.length ≤ 9223372036854775806 ∧ ∀ y ∈ x, I64 y := fun x hx => by
    have := h0.2.2 x hx
    exact ⟨by have := this.2.1; omega, fun y hy => I64.of (this.2.2 y hy)⟩
  unfold airchecklaw36_FingerprintHears.f
  rw [made_f (by have := h0.2.1; omega) q0 (by omega)]
  simp only [airchecklaw36_sane.f, Option.bind_some, if_true]
  generalize madeP l0 = P at v1 v2 v3 v4 v16
  have p1 := pickP_in (a := a1) (n := (P.length : Int)) (by omega)
  rw [pick_f (I64.of h1) (by omega), Option.bind_some, if_pos p1.1, if_pos p1.2]
  obtain ⟨i0, hi⟩ : ∃ i0 : Nat, pickP a1 (P.length : Int) = i0 := ⟨(pickP a1 (P.length : Int)).toNat, by omega⟩
  rw [hi] at p1 ⊢
  have hi0 : i0 < P.length := by omega
  rw [rd34 hi0]
  have Hc := v1.pr _ (List.getElem_mem hi0)
  have hc1 := Hc.1
  have p2 := pickP_in (a := a2) (n := ((P[i0]).f1.length : Int)) (by omega)
  rw [pick_f (I64.of h2) (by omega), Option.bind_some]
  obtain ⟨a, ha⟩ : ∃ a : Nat, pickP a2 ((P[i0]).f1.length : Int) = a := ⟨(pickP a2 ((P[i0]).f1.length : Int)).toNat, by omega⟩
  rw [ha] at p2 ⊢
  exact hears_stop v1 (by omega) hi0 (v16 _ (List.getElem_mem hi0)) (by omega) (I64.of h3) (fun x hx => by
    have := h4.2.2 x hx
    exact ⟨I64.of this.1, I64.of this.2.1, I64.of this.2.2⟩)

end Go.Proofs.Ytgaepndbfpfniaa.Pure
