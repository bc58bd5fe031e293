/- The plain theory of fingerprints, on; no condition. -/
import Derived.Test.YtgaepndbfpfniaaFP
import Derived.Test.YtgaepndbfpfniaaPFRx11
import Derived.Test.YtgaepndbfpfniaaPFRx13
import Derived.Test.YtgaepndbfpfniaaPFRx6
import Derived.Test.YtgaepndbfpfniaaPFRx23
import Derived.Test.YtgaepndbfpfniaaPFRx24
import Derived.Test.YtgaepndbfpfniaaPFRx25
import Derived.Test.YtgaepndbfpfniaaPFRx26
import Derived.Test.YtgaepndbfpfniaaPFRx27
import Derived.Test.YtgaepndbfpfniaaPFRx28
import Derived.Test.YtgaepndbfpfniaaPFRx29
import Derived.Test.YtgaepndbfpfniaaPFRx31
import Derived.Test.YtgaepndbfpfniaaPFRx32
namespace Go.Proofs.Ytgaepndbfpfniaa.PFR
open Go.RowKit Go.Proofs.YtgaepndbfpfniaaW.PrintWords Go.Proofs.YtgaepndbfpfniaaW.PrintLast Go.Proofs.YtgaepndbfpfniaaW.PrintMore
/-! ### the reference's functions: the codes, the prints -/
theorem codesB_cons (low x : Int) (q : List Int) : fp_codesB low (x :: q) = (!fp_badB low x && fp_codesB low q) := by simp [fp_codesB]
theorem rcodes_l0 (l : List Int) (low : Int) (hl : l.length ≤ 1000) : ∀ (k d i : Nat), l.length - i = d → i ≤ l.length → d + 1 ≤ k → aircheckref36_codes.l0 k l low (i : Int) = some (fp_codesB low (l.drop i))
  | 0, d, i, _, _, hk => by omega
  | k + 1, d, i, hd, hi, hk => by
    unfold aircheckref36_codes.l0
    by_cases h : i < l.length
    · rw [if_pos (by omega), if_pos (by omega), List.drop_eq_getElem_cons h, rd_get h]
      rw [codesB_cons]
      by_cases a : l[i] < low
      · rw [if_pos a]; simp [fp_badB, a]
      · rw [if_neg a]
        by_cases b : l[i] > 255
        · rw [if_pos b]; simp [fp_badB, b]
        · rw [if_neg b, wrap_up h (by omega), rcodes_l0 l low hl k (d - 1) (i + 1) (by omega) (by omega) (by omega)]
          have b' : ¬ (255 < l[i]) := b
          simp [fp_badB, a, b']
    · rw [if_neg (by omega), List.drop_eq_nil_of_le (by omega)]; rfl
theorem rheard_f (l : List Int) {k : Nat} (hk : 70 ≤ k) : aircheckref36_Heard.f k l = some (fp_heardB l) := by
  unfold aircheckref36_Heard.f fp_heardB
  by_cases h : (l.length : Int) ≤ 60
  · rw [if_pos h]
    unfold aircheckref36_codes.f
    rw [show (0 : Int) = ((0 : Nat) : Int) from rfl, rcodes_l0 l (-1) (by omega) k l.length 0 (by omega) (by omega) (by omega)]
    simp [h]
  · rw [if_neg h]; simp [h]
theorem rprint_f (l : List Int) {k : Nat} (hk : 70 ≤ k) : aircheckref36_IsPrint.f k l = some (fp_printB l) := by
  unfold aircheckref36_IsPrint.f fp_printB
  by_cases g : (l.length : Int) ≥ 1
  · rw [if_pos g]
    by_cases h : (l.length : Int) ≤ 60
    · rw [if_pos h]
      unfold aircheckref36_codes.f
      have := rcodes_l0 l 0 (by omega) k l.length 0 (by omega) (by omega) (by omega)
      rw [show ((0 : Nat) : Int) = 0 from rfl] at this
      rw [this]
      have g' : 1 ≤ (l.length : Int) := g
      simp [h, g']
    · rw [if_neg h]; simp [h]
  · rw [if_neg g]
    have g' : ¬ 1 ≤ (l.length : Int) := g
    simp [g']
theorem heard_b (l : List Int) : fingerprint_Heard.f l = some (fp_heardB l) := rfl
theorem print_b (l : List Int) : fingerprint_isPrint.f l = some (fp_printB l) := rfl
theorem heardB_hd {l : List Int} (h : fp_heardB l = true) : Hd l := by
  unfold fp_heardB fp_codesB at h
  simp only [Bool.and_eq_true, decide_eq_true_eq, Bool.not_eq_true', List.any_eq_false] at h
  refine ⟨by omega, fun x hx => ?_⟩
  have := h.2 x hx
  simp [fp_badB] at this
  omega
theorem printB_pr {l : List Int} (h : fp_printB l = true) : Pr l := by
  unfold fp_printB fp_codesB at h
  simp only [Bool.and_eq_true, decide_eq_true_eq, Bool.not_eq_true', List.any_eq_false] at h
  refine ⟨by omega, by omega, fun x hx => ?_⟩
  have := h.2 x hx
  simp [fp_badB] at this
  omega
theorem valid_both (al : List S34) (hl : al.length ≤ 1000) : ∀ (k d i : Nat) (last : Int), al.length - i = d → i ≤ al.length → d + 71 ≤ k → (i = 0 → last = -1) → (0 < i → last = (rd_T34 al ((i : Int) - 1)).f0) → -1 ≤ last → ∃ v, fingerprint_Valid.l0 k al last al (al.length : Int) (i : Int) = some v ∧ aircheckref36_Valid.l0 k al (i : Int) = some v
  | 0, d, i, _, _, _, hk, _, _, _ => by omega
  | k + 1, d, i, last, hd, hi, hk, h0, h1, hm => by
    unfold fingerprint_Valid.l0 aircheckref36_Valid.l0
    by_cases h : i < al.length
    · rw [if_pos (show (i : Int) < (al.length : Int) by omega), if_pos (show (0 : Int) ≤ (i : Int) by omega), if_pos (show (i : Int) < (al.length : Int) by omega), if_pos (show (i : Int) < (al.length : Int) by omega), if_pos (show (0 : Int) ≤ (i : Int) by omega)]
      obtain ⟨p, hp⟩ : ∃ p, rd_T34 al (i : Int) = p := ⟨_, rfl⟩
      rw [hp, rprint_f p.f1 (by omega), print_b]
      have hw : wrap64 ((i : Int) + 1) = ((i + 1 : Nat) : Int) := by rw [wrap_id (by omega) (by omega)]; omega
      by_cases a : p.f0 ≤ last
      · rw [if_pos a]
        refine ⟨false, rfl, ?_⟩
        by_cases b : p.f0 < 0
        · rw [if_pos b]
        · rw [if_neg b]
          by_cases c : p.f0 ≥ 200
          · rw [if_pos c]
          · rw [if_neg c]
            show (if fp_printB p.f1 = true then _ else _) = _
            by_cases e : fp_printB p.f1 = true
            · rw [if_pos e]
              have hi0 : 0 < i := by
                rcases Nat.eq_zero_or_pos i with q | q
                · have := h0 q; omega
                · exact q
              have hw1 : wrap64 ((i : Int) - 1) = (i : Int) - 1 := wrap_id (by omega) (by omega)
              rw [if_pos (by omega), hw1, if_pos (by omega), if_pos (by omega), ← h1 hi0, if_pos a]
            · rw [if_neg e]
      · rw [if_neg a]
        have b : ¬ p.f0 < 0 := by omega
        rw [if_neg b]
        by_cases c : p.f0 ≥ 200
        · rw [if_pos c, if_pos c]; exact ⟨false, rfl, rfl⟩
        · rw [if_neg c, if_neg c]
          show ∃ v, (if fp_printB p.f1 = true then _ else _) = _ ∧ (if fp_printB p.f1 = true then _ else _) = _
          by_cases e : fp_printB p.f1 = true
          · rw [if_pos e, if_pos e, hw]
            have ih := valid_both al hl k (d - 1) (i + 1) p.f0 (by omega) (by omega) (by omega) (fun q => by omega) (fun _ => by rw [show ((i + 1 : Nat) : Int) - 1 = (i : Int) by omega, hp]) (by omega)
            obtain ⟨v, e1, e2⟩ := ih
            refine ⟨v, e1, ?_⟩
            by_cases q : (i : Int) > 0
            · have hw1 : wrap64 ((i : Int) - 1) = (i : Int) - 1 := wrap_id (by omega) (by omega)
              rw [if_pos q, hw1, if_pos (by omega), if_pos (by omega), ← h1 (by omega), if_neg a]
              exact e2
            · rw [if_neg q]; exact e2
          · rw [if_neg e, if_neg e]; exact ⟨false, rfl, rfl⟩
    · rw [if_neg (by omega), if_neg (by omega)]
      exact ⟨_, rfl, rfl⟩
theorem hok_f {h : List Int} {al : List S34} (hl : al.length ≤ 1000) {k : Nat} (hk : 1100 ≤ k) : mr_hok k h al := by
  obtain ⟨v, e1, e2⟩ := valid_both al hl k al.length 0 (-1) (by omega) (by omega) (by omega) (fun _ => rfl) (fun q => by omega) (by omega)
  exact ⟨fp_heardB h, v, rfl, rheard_f h (by omega), e1, e2⟩
/-! ### two lists, two tables that are the same -/
theorem same_refl {l : List Int} (hl : l.length ≤ 9223372036854775806) {k : Nat} (hk : l.length + 1 ≤ k) (a b c d : Int) : aircheckref36_Same.f k a b c d l a b c d l = some true := by
  unfold aircheckref36_Same.f
  rw [if_pos rfl, if_pos rfl, if_pos rfl, if_pos rfl, ints_f hl hk]
  simp
theorem sametab_l0 (t : List (List Int)) (hl : t.length ≤ 1000) (hr : ∀ r ∈ t, r.length ≤ 1000) : ∀ (k d i : Nat), t.length - i = d → i ≤ t.length → d + 1002 ≤ k → aircheckref36_SameTable.l0 k t t (i : Int) = some true
  | 0, d, i, _, _, hk => by omega
  | k + 1, d, i, hd, hi, hk => by
    unfold aircheckref36_SameTable.l0
    by_cases h : i < t.length
    · have hm : rd_L1 t (i : Int) ∈ t := by
        rw [show rd_L1 t (i : Int) = t[i] by simp [rd_L1, h]]; exact List.getElem_mem h
      have := hr _ hm
      rw [if_pos (by omega), if_pos (by omega), if_pos (by omega), ints_f (by omega) (by omega)]
      simp only [decide_true, Option.bind_some, if_true]
      rw [wrap_id (by omega) (by omega), show (i : Int) + 1 = ((i + 1 : Nat) : Int) by omega]
      exact sametab_l0 t hl hr k (d - 1) (i + 1) (by omega) (by omega) (by omega)
    · rw [if_neg (by omega)]
theorem sametab_f {t : List (List Int)} (hl : t.length ≤ 1000) (hr : ∀ r ∈ t, r.length ≤ 1000) {k : Nat} (hk : 2010 ≤ k) : aircheckref36_SameTable.f k t t = some true := by
  unfold aircheckref36_SameTable.f
  rw [if_pos rfl]
  exact sametab_l0 t hl hr k t.length 0 (by omega) (by omega) (by omega)
/-! ### the least number -/
theorem least_l0 (l : List Int) (hl : l.length ≤ 1000) : ∀ (k d i : Nat) (m : Int), l.length - i = d → i ≤ l.length → d + 1 ≤ k → aircheckref36_least.l0 k l m (i : Int) = some (fp_minF m (l.drop i))
  | 0, d, i, _, _, _, hk => by omega
  | k + 1, d, i, m, hd, hi, hk => by
    unfold aircheckref36_least.l0
    by_cases h : i < l.length
    · rw [if_pos (by omega), if_pos (by omega), List.drop_eq_getElem_cons h, rd_get h, wrap_up h (by omega)]
      rw [least_l0 l hl k (d - 1) (i + 1) (mn m l[i]) (by omega) (by omega) (by omega)]
      rfl
    · rw [if_neg (by omega), List.drop_eq_nil_of_le (by omega)]; rfl
theorem least_f {l : List Int} (h0 : 0 < l.length) (hl : l.length ≤ 1000) {k : Nat} (hk : 1002 ≤ k) : aircheckref36_least.f k l = slices_Min_int_int.f l := by
  unfold aircheckref36_least.f
  rw [if_pos (by omega)]
  obtain ⟨x, r, rfl⟩ : ∃ x r, l = x :: r := by
    cases l with
    | nil => simp at h0
    | cons x r => exact ⟨x, r, rfl⟩
  have hl' : r.length + 1 ≤ 1000 := by simpa using hl
  have := least_l0 (x :: r) hl k r.length 1 (rd (x :: r) 0) (by simp) (by simp) (by omega)
  rw [show ((1 : Nat) : Int) = 1 from rfl] at this
  rw [this]
  rfl
/-! ### the reference's table of the rests: its numbers are lev of the rests -/
def mapR {α : Type} (n : Nat) (f : Nat → α) : List α := (List.range n).map f
theorem mapR_length {α : Type} (n : Nat) (f : Nat → α) : (mapR n f).length = n := by simp [mapR]
theorem mapR_get {α : Type} {n i : Nat} (f : Nat → α) (d : α) (h : i < n) : (mapR n f).getD i d = f i := by simp [mapR, h]
theorem mapR_set {α : Type} (n i : Nat) (f : Nat → α) (v : α) : (mapR n f).set i v = mapR n (fun r => if r = i then v else f r) := by
  apply List.ext_getElem
  · simp [mapR]
  · intro j h1 h2
    simp only [mapR, List.length_set, List.length_map, List.length_range] at h1
    simp only [mapR, List.getElem_set, List.getElem_map, List.getElem_range]
    by_cases hij : i = j
    · subst hij; simp
    · rw [if_neg hij, if_neg (fun e => hij e.symm)]
theorem mapR_congr {α : Type} {n : Nat} {f g : Nat → α} (h : ∀ i, i < n → f i = g i) : mapR n f = mapR n g := by
  unfold mapR
  exact List.map_congr_left (fun i hi => h i (by simpa using hi))
theorem rd_mapR {n i : Nat} (f : Nat → Int) (h : i < n) : rd (mapR n f) (i : Int) = f i := by
  unfold rd; rw [Int.toNat_natCast]; exact mapR_get f 0 h
theorem rdL_mapR {n i : Nat} (f : Nat → List Int) (h : i < n) : rd_L1 (mapR n f) (i : Int) = f i := by
  unfold rd_L1; rw [Int.toNat_natCast]; exact mapR_get f [] h
def levR (a b : List Int) (i j : Nat) : Int := (lev (a.drop i) (b.drop j) : Int)
def rowR (a b : List Int) (i m : Nat) : List Int := mapR (b.length + 1) (fun j => if m ≤ j then levR a b i j else 0)
def tabR (a b : List Int) (n : Nat) : List (List Int) := mapR (a.length + 1) (fun i => if n ≤ i then rowR a b i 0 else [])
def restP (a b : List Int) : List (List Int) := tabR a b 0
theorem tabR_row (a b : List Int) (n i : Nat) (hn : n = i + 1) : tabR a b i = mapR (a.length + 1) (fun r => if r = i then rowR a b i 0 else (fun i => if n ≤ i then rowR a b i 0 else []) r) := by
  unfold tabR
  refine mapR_congr (fun r _ => ?_)
  by_cases h : r = i
  · subst h; rw [if_pos (Nat.le_refl _), if_pos rfl]
  · rw [if_neg h]
    by_cases g : n ≤ r
    · rw [if_pos (by omega)]; simp only [if_pos g]
    · rw [if_neg (by omega)]; simp only [if_neg g]
theorem rowR_step (a b : List Int) (i m : Nat) (v : Int) (hv : v = levR a b i m) : (rowR a b i (m + 1)).set m v = rowR a b i m := by
  unfold rowR
  rw [mapR_set]
  refine mapR_congr (fun j _ => ?_)
  by_cases h : j = m
  · subst h; rw [if_pos rfl, if_pos (Nat.le_refl _), hv]
  · rw [if_neg h]
    by_cases g : m + 1 ≤ j
    · rw [if_pos g, if_pos (by omega)]
    · rw [if_neg g, if_neg (by omega)]
theorem rowR_zero (a b : List Int) (i : Nat) : rowR a b i (b.length + 1) = List.replicate (b.length + 1) 0 := by
  unfold rowR mapR
  apply List.ext_getElem
  · simp
  · intro j h1 h2
    simp only [List.length_map, List.length_range] at h1
    simp only [List.getElem_map, List.getElem_range, List.getElem_replicate]
    rw [if_neg (by omega)]
theorem lev_len (a b : List Int) : lev a b ≤ a.length + b.length := by
  have h1 := lev_le ((Ed.dels a).append (Ed.dels b).symm)
  simpa using h1
theorem levR_in (a b : List Int) (i j : Nat) : 0 ≤ levR a b i j ∧ levR a b i j ≤ a.length + b.length := by
  unfold levR
  have := lev_len (a.drop i) (b.drop j)
  simp only [List.length_drop] at this
  omega
/-- the table while row i is being filled, from number m on -/
def tabM (a b : List Int) (i m : Nat) : List (List Int) := mapR (a.length + 1) (fun r => if r = i then rowR a b i m else if i + 1 ≤ r then rowR a b r 0 else [])
theorem tabM_set (a b : List Int) (i m : Nat) (row : List Int) (h : row = rowR a b i m) (m' : Nat) : (tabM a b i m').set i row = tabM a b i m := by
  unfold tabM
  rw [mapR_set, h]
  refine mapR_congr (fun r _ => ?_)
  by_cases g : r = i
  · rw [if_pos g, if_pos g]
  · rw [if_neg g, if_neg g, if_neg g]
theorem rest_l1 (a b : List Int) (ha : a.length ≤ 100) (hb : b.length ≤ 100) (i : Nat) (hi : i ≤ a.length) : ∀ (m k k' : Nat), m ≤ b.length + 1 → k = k' + m + 1 → aircheckref36_rest.l1 k a b (tabM a b i m) (i : Int) ((m : Int) - 1) = aircheckref36_rest.l0 k' a b (tabM a b i 0) ((i : Int) - 1)
  | 0, k, k', _, hk => by
    subst hk
    unfold aircheckref36_rest.l1
    rw [if_neg (by omega), wrap_id (by omega) (by omega)]
  | m + 1, k, k', hm, hk => by
    have hlen : (tabM a b i (m + 1)).length = a.length + 1 := mapR_length _ _
    have hrow : rd_L1 (tabM a b i (m + 1)) (i : Int) = rowR a b i (m + 1) := by unfold tabM; rw [rdL_mapR _ (by omega), if_pos rfl]
    have hrl : (rowR a b i (m + 1)).length = b.length + 1 := mapR_length _ _
    have ih := rest_l1 a b ha hb i hi m (k' + m + 1) k' (by omega) rfl
    obtain ⟨q, rfl⟩ : ∃ q, k = q + 1 := ⟨k' + (m + 1), by omega⟩
    obtain rfl : q = k' + m + 1 := by omega
    unfold aircheckref36_rest.l1
    rw [show ((m + 1 : Nat) : Int) - 1 = (m : Int) by omega, if_pos (by omega), hrow, hlen, hrl, wrap_id (x := (m : Int) - 1) (by omega) (by omega), Int.toNat_natCast, Int.toNat_natCast]
    by_cases h1 : (i : Int) = (a.length : Int)
    · rw [if_pos h1, if_pos (by omega), if_pos (by omega), if_pos (by omega), if_pos (by omega), wrap_id (by omega) (by omega)]
      rw [rowR_step a b i m _ (by unfold levR; rw [List.drop_eq_nil_of_le (by omega), lev_nil, List.length_drop]; omega), tabM_set a b i m _ rfl]
      exact ih
    · rw [if_neg h1]
      by_cases h2 : (m : Int) = (b.length : Int)
      · rw [if_pos h2, if_pos (by omega), if_pos (by omega), if_pos (by omega), if_pos (by omega), wrap_id (by omega) (by omega)]
        rw [rowR_step a b i m _ (by unfold levR; rw [show b.drop m = [] from List.drop_eq_nil_of_le (by omega), lev_nil', List.length_drop]; omega), tabM_set a b i m _ rfl]
        exact ih
      · have hup : rd_L1 (tabM a b i (m + 1)) ((i : Int) + 1) = rowR a b (i + 1) 0 := by
          rw [show (i : Int) + 1 = ((i + 1 : Nat) : Int) by omega]
          unfold tabM
          rw [rdL_mapR _ (by omega), if_neg (by omega), if_pos (by omega)]
        have hul : (rowR a b (i + 1) 0).length = b.length + 1 := mapR_length _ _
        have u0 : rd (rowR a b (i + 1) 0) (m : Int) = levR a b (i + 1) m := by unfold rowR; rw [rd_mapR _ (by omega), if_pos (by omega)]
        have u1 : rd (rowR a b (i + 1) 0) ((m : Int) + 1) = levR a b (i + 1) (m + 1) := by rw [show (m : Int) + 1 = ((m + 1 : Nat) : Int) by omega]; unfold rowR; rw [rd_mapR _ (by omega), if_pos (by omega)]
        have u2 : rd (rowR a b i (m + 1)) ((m : Int) + 1) = levR a b i (m + 1) := by rw [show (m : Int) + 1 = ((m + 1 : Nat) : Int) by omega]; unfold rowR; rw [rd_mapR _ (by omega), if_pos (by omega)]
        have hia : i < a.length := by omega
        have hmb : m < b.length := by omega
        rw [if_neg h2, wrap_id (x := (i : Int) + 1) (by omega) (by omega), wrap_id (x := (m : Int) + 1) (by omega) (by omega), hup, hul, u0, u1, u2, rd_get hia, rd_get hmb]
        rw [if_pos (by omega), if_pos (by omega), if_pos (by omega), if_pos (by omega), if_pos (by omega), if_pos (by omega), if_pos (by omega), if_pos (by omega), if_pos (by omega)]
        have hd : aircheckref36_differ.f a[i] b[m] = some ((ne01 a[i] b[m] : Nat) : Int) := by unfold aircheckref36_differ.f ne01; split <;> rfl
        rw [hd, Option.bind_some, if_pos (by omega), if_pos (by omega), if_pos (by omega)]
        have b1 := levR_in a b (i + 1) (m + 1)
        have b2 := levR_in a b (i + 1) m
        have b3 := levR_in a b i (m + 1)
        have b4 : ne01 a[i] b[m] ≤ 1 := by unfold ne01; split <;> omega
        rw [wrap_id (x := levR a b (i + 1) (m + 1) + ((ne01 a[i] b[m] : Nat) : Int)) (by omega) (by omega), wrap_id (x := levR a b (i + 1) m + 1) (by omega) (by omega), wrap_id (x := levR a b i (m + 1) + 1) (by omega) (by omega)]
        rw [rowR_step a b i m _ (by
          have hl := lev_cons a[i] b[m] (a.drop (i + 1)) (b.drop (m + 1))
          rw [← List.drop_eq_getElem_cons hia, ← List.drop_eq_getElem_cons hmb] at hl
          unfold levR
          rw [hl]
          unfold mn
          split <;> split <;> omega), tabM_set a b i m _ rfl]
        exact ih
theorem rest_l0 (a b : List Int) (ha : a.length ≤ 100) (hb : b.length ≤ 100) : ∀ (n k : Nat), n ≤ a.length + 1 → n * (b.length + 3) + 1 ≤ k → aircheckref36_rest.l0 k a b (tabR a b n) ((n : Int) - 1) = some (restP a b)
  | 0, k, _, hk => by
    obtain ⟨k, rfl⟩ : ∃ q, k = q + 1 := ⟨k - 1, by omega⟩
    unfold aircheckref36_rest.l0
    rw [if_neg (by omega)]
    rfl
  | n + 1, k, hn, hk => by
    have e : (n + 1) * (b.length + 3) = n * (b.length + 3) + (b.length + 3) := Nat.succ_mul _ _
    obtain ⟨k', rfl⟩ : ∃ q, k = q + (b.length + 1) + 1 + 1 := ⟨k - (b.length + 3), by omega⟩
    have ih := rest_l0 a b ha hb n k' (by omega) (by omega)
    have hlen : (tabR a b (n + 1)).length = a.length + 1 := mapR_length _ _
    unfold aircheckref36_rest.l0
    rw [show ((n + 1 : Nat) : Int) - 1 = (n : Int) by omega, if_pos (by omega), wrap_id (x := (b.length : Int) + 1) (by omega) (by omega), if_pos (by omega), if_pos (by omega), if_pos (by omega), hlen, if_pos (by omega), Int.toNat_natCast]
    have h1 : (tabR a b (n + 1)).set n (List.replicate ((b.length : Int) + 1).toNat 0) = tabM a b n (b.length + 1) := by
      rw [show ((b.length : Int) + 1).toNat = b.length + 1 by omega, ← rowR_zero a b n]
      unfold tabR tabM
      rw [mapR_set]
    rw [h1, show (b.length : Int) = ((b.length + 1 : Nat) : Int) - 1 by omega, rest_l1 a b ha hb n (by omega) (b.length + 1) (k' + (b.length + 1) + 1) k' (by omega) rfl]
    have h2 : tabM a b n 0 = tabR a b n := by rw [tabR_row a b (n + 1) n rfl]; rfl
    rw [h2]
    exact ih
theorem rest_f {a b : List Int} (ha : a.length ≤ 60) (hb : b.length ≤ 60) {k : Nat} (hk : 4000 ≤ k) : aircheckref36_rest.f k a b = some (restP a b) := by
  unfold aircheckref36_rest.f
  rw [wrap_id (by omega) (by omega), if_pos (by omega), if_pos (by omega), show ((a.length : Int) + 1).toNat = a.length + 1 by omega]
  have h1 : List.replicate (a.length + 1) ([] : List Int) = tabR a b (a.length + 1) := by
    unfold tabR mapR
    apply List.ext_getElem
    · simp
    · intro j h1 h2
      simp only [List.length_replicate] at h1
      simp only [List.getElem_map, List.getElem_range, List.getElem_replicate]
      rw [if_neg (by omega)]
  have h2 := rest_l0 a b (by omega) (by omega) (a.length + 1) k (Nat.le_refl _) (by
    have : (a.length + 1) * (b.length + 3) ≤ 61 * 63 := Nat.mul_le_mul (by omega) (by omega)
    omega)
  rw [h1, show (a.length : Int) = ((a.length + 1 : Nat) : Int) - 1 by omega]
  exact h2
theorem restP_rd (a b : List Int) {i j : Nat} (hi : i ≤ a.length) (hj : j ≤ b.length) : rd (rd_L1 (restP a b) (i : Int)) (j : Int) = (lev (a.drop i) (b.drop j) : Int) := by
  unfold restP tabR
  rw [rdL_mapR _ (by omega), if_pos (Nat.zero_le _)]
  unfold rowR
  rw [rd_mapR _ (by omega), if_pos (Nat.zero_le _)]
  rfl
theorem restP_length (a b : List Int) : (restP a b).length = a.length + 1 := mapR_length _ _
theorem restP_row (a b : List Int) {i : Nat} (hi : i ≤ a.length) : (rd_L1 (restP a b) (i : Int)).length = b.length + 1 := by
  unfold restP tabR
  rw [rdL_mapR _ (by omega), if_pos (Nat.zero_le _)]
  exact mapR_length _ _
theorem rdist_f {a b : List Int} {k : Nat} (hk : 4000 ≤ k) : aircheckref36_Distance.f k a b = fingerprint_Distance.f a b := by
  unfold aircheckref36_Distance.f
  rw [rheard_f a (by omega), rheard_f b (by omega)]
  simp only [Option.bind_some]
  by_cases ha : fp_heardB a = true
  · rw [if_pos ha]
    by_cases hb : fp_heardB b = true
    · rw [if_pos hb, rest_f (heardB_hd ha).1 (heardB_hd hb).1 hk, Option.bind_some, restP_length, if_pos (by omega)]
      have h0 := restP_row a b (i := 0) (Nat.zero_le _)
      have h1 := restP_rd a b (i := 0) (j := 0) (Nat.zero_le _) (Nat.zero_le _)
      rw [show ((0 : Nat) : Int) = 0 from rfl] at h0 h1
      rw [h0, if_pos (by omega), h1, dist_f (heardB_hd ha) (heardB_hd hb)]
      rfl
    · rw [if_neg hb]
      unfold fingerprint_Distance.f
      rw [heard_b, heard_b, Option.bind_some, if_pos ha, Option.bind_some, if_neg hb]
  · rw [if_neg ha]
    unfold fingerprint_Distance.f
    rw [heard_b, Option.bind_some, if_neg ha]
/-! Scripts, and that a match's own script is accepted. -/
inductive Ops : List Int → List Int → List Int → Nat → Prop
  | nil : Ops [] [] [] 0
  | keep (x : Int) {h p s : List Int} {n : Nat} : Ops h p s n → Ops (x :: h) (x :: p) (1 :: s) n
  | other (x y : Int) {h p s : List Int} {n : Nat} : x ≠ y → Ops h p s n → Ops (x :: h) (y :: p) (2 :: s) (n + 1)
  | extra (x : Int) {h p s : List Int} {n : Nat} : Ops h p s n → Ops (x :: h) p (3 :: s) (n + 1)
  | lost (y : Int) {h p s : List Int} {n : Nat} : Ops h p s n → Ops h (y :: p) (4 :: s) (n + 1)
theorem Ops.ed {h p s : List Int} {n : Nat} (o : Ops h p s n) : Ed h p n := by
  induction o with
  | nil => exact .nil
  | keep x _ ih => exact .keep x ih
  | other x y _ _ ih => exact .other x y ih
  | extra x _ ih => exact .extra x ih
  | lost y _ ih => exact .lost y ih
theorem Ops.len {h p s : List Int} {n : Nat} (o : Ops h p s n) : s.length ≤ h.length + p.length ∧ n ≤ s.length := by
  induction o with
  | nil => simp
  | keep x _ ih => simp; omega
  | other x y _ _ ih => simp; omega
  | extra x _ ih => simp; omega
  | lost y _ ih => simp; omega
theorem rowsF_getD (b : List Int) : ∀ (a r : List Int) (i : Nat), i ≤ a.length → (r :: fp_rowsF b r a).getD i [] = (a.take i).foldl (fun r x => fp_next x b r) r
  | [], r, i, h => by
    obtain rfl : i = 0 := by simpa using h
    rfl
  | x :: a, r, 0, h => rfl
  | x :: a, r, i + 1, h => by
    rw [fp_rowsF, List.getD_cons_succ, rowsF_getD b a _ i (by simpa using h)]
    rfl
theorem rowsP_getD (a b : List Int) (free : Bool) {i : Nat} (h : i ≤ a.length) : (fp_rowsP a b free).getD i [] = fp_lastP (a.take i) b free := rowsF_getD b a _ i h
theorem errT_eq {h p h0 p0 h1 p1 : List Int} (eh : h = h1 ++ h0) (ep : p = p1 ++ p0) (hh : h.length ≤ 60) (hp : p.length ≤ 60) : fp_errT (fp_tableB h p) h0.length p0.length = (lev h0 p0 : Int) := by
  unfold fp_errT fp_tableB
  have l1 : h.length = h1.length + h0.length := by rw [eh, List.length_append]
  have l2 : p.length = p1.length + p0.length := by rw [ep, List.length_append]
  have e1 : h.reverse.take h0.length = h0.reverse := by rw [eh, List.reverse_append, List.take_append_of_le_length (by simp), List.take_of_length_le (by simp)]
  have e2 : p.reverse.take p0.length = p0.reverse := by rw [ep, List.reverse_append, List.take_append_of_le_length (by simp), List.take_of_length_le (by simp)]
  rw [rowsP_getD _ _ _ (by simp; omega), e1, lastP_eq _ _ _ (by simp; omega) (by simp; omega), rowG_rd _ _ _ (by simp; omega), e2]
  simp [tabD]
theorem opsF_ok {h p : List Int} (hh : h.length ≤ 60) (hp : p.length ≤ 60) : ∀ (k : Nat) (h0 p0 h1 p1 : List Int), h = h1 ++ h0 → p = p1 ++ p0 → h0.length + p0.length < k →
    ∃ s, fp_opsF (fp_tableB h p) k h0 p0 = some s ∧ Ops h0 p0 s (lev h0 p0)
  | 0, _, _, _, _, _, _, hk => absurd hk (by omega)
  | k + 1, [], [], h1, p1, eh, ep, hk => ⟨[], rfl, by rw [lev_nil]; exact .nil⟩
  | k + 1, [], y :: p0, h1, p1, eh, ep, hk => by
    obtain ⟨s, e, o⟩ := opsF_ok hh hp k [] p0 h1 (p1 ++ [y]) eh (by simpa using ep) (by simp at hk ⊢; omega)
    refine ⟨4 :: s, by rw [fp_opsF, e]; rfl, ?_⟩
    rw [lev_nil] at o ⊢
    exact .lost y o
  | k + 1, x :: h0, [], h1, p1, eh, ep, hk => by
    obtain ⟨s, e, o⟩ := opsF_ok hh hp k h0 [] (h1 ++ [x]) p1 (by simpa using eh) ep (by simp at hk ⊢; omega)
    have t1 := errT_eq (h0 := h0) (p0 := []) (h1 := h1 ++ [x]) (by simpa using eh) ep hh hp
    have t2 := errT_eq (h0 := x :: h0) (p0 := []) eh ep hh hp
    have hl : h0.length < 60 := by have := congrArg List.length eh; simp at this; omega
    simp only [List.length_nil, List.length_cons] at t1 t2
    refine ⟨3 :: s, ?_, ?_⟩
    · rw [fp_opsF, t1, t2, lev_nil', lev_nil', wrap_id (by omega) (by omega), if_pos (by simp), e]; rfl
    · rw [lev_nil'] at o ⊢
      exact .extra x o
  | k + 1, x :: h0, y :: p0, h1, p1, eh, ep, hk => by
    have eh' : h = (h1 ++ [x]) ++ h0 := by simpa using eh
    have ep' : p = (p1 ++ [y]) ++ p0 := by simpa using ep
    have hk' : h0.length + p0.length + 2 < k + 1 := by simp at hk; omega
    obtain ⟨s1, e1, o1⟩ := opsF_ok hh hp k h0 p0 _ _ eh' ep' (by omega)
    obtain ⟨s2, e2, o2⟩ := opsF_ok hh hp k h0 (y :: p0) _ _ eh' ep (by simp; omega)
    obtain ⟨s3, e3, o3⟩ := opsF_ok hh hp k (x :: h0) p0 _ _ eh ep' (by simp; omega)
    have t0 := errT_eq eh ep hh hp
    have t1 := errT_eq eh' ep' hh hp
    have t2 := errT_eq eh' ep hh hp
    have hl : h0.length < 60 := by have := congrArg List.length eh; simp at this; omega
    have pl : p0.length < 60 := by have := congrArg List.length ep; simp at this; omega
    have bd := (lev_le (Ed.trans (Ed.dels h0) (Ed.dels p0).symm).choose_spec.2)
    have bd2 := (Ed.trans (Ed.dels h0) (Ed.dels p0).symm).choose_spec.1
    have bl := lev_lost y h0 p0
    have be := lev_extra x h0 p0
    simp only [List.length_cons] at t0 t2
    have lc := lev_cons x y h0 p0
    have hn : ne01 x y = 0 ∧ x = y ∨ ne01 x y = 1 ∧ x ≠ y := by unfold ne01; split <;> simp [*]
    rw [fp_opsF, t0, t1, t2, wrap_id (x := ((lev h0 p0 : Nat) : Int) + 1) (by omega) (by omega), wrap_id (x := ((lev h0 (y :: p0) : Nat) : Int) + 1) (by omega) (by omega)]
    by_cases c1 : x = y ∧ (lev h0 p0 : Int) = (lev (x :: h0) (y :: p0) : Int)
    · rw [if_pos c1, e1]
      obtain ⟨rfl, c1⟩ := c1
      refine ⟨1 :: s1, rfl, ?_⟩
      rw [← (by omega : lev h0 p0 = lev (x :: h0) (x :: p0))]
      exact .keep x o1
    · rw [if_neg c1]
      by_cases c2 : x ≠ y ∧ (lev h0 p0 : Int) + 1 = (lev (x :: h0) (y :: p0) : Int)
      · rw [if_pos c2, e1]
        refine ⟨2 :: s1, rfl, ?_⟩
        rw [← (by omega : lev h0 p0 + 1 = lev (x :: h0) (y :: p0))]
        exact .other x y c2.1 o1
      · rw [if_neg c2]
        by_cases c3 : (lev h0 (y :: p0) : Int) + 1 = (lev (x :: h0) (y :: p0) : Int)
        · rw [if_pos c3, e2]
          refine ⟨3 :: s2, rfl, ?_⟩
          rw [← (by omega : lev h0 (y :: p0) + 1 = lev (x :: h0) (y :: p0))]
          exact .extra x o2
        · rw [if_neg c3, e3]
          refine ⟨4 :: s3, rfl, ?_⟩
          have c4 : lev (x :: h0) p0 + 1 = lev (x :: h0) (y :: p0) := by
            rcases hn with ⟨n1, n2⟩ | ⟨n1, n2⟩
            · have : ¬ ((lev h0 p0 : Int) = (lev (x :: h0) (y :: p0) : Int)) := fun h => c1 ⟨n2, h⟩
              omega
            · have : ¬ ((lev h0 p0 : Int) + 1 = (lev (x :: h0) (y :: p0) : Int)) := fun h => c2 ⟨n2, h⟩
              omega
          rw [← c4]
          exact .lost y o3
theorem steps_f {h p : List Int} (hh : h.length ≤ 60) (hp : p.length ≤ 60) : ∃ s, fingerprint_steps.f h p = some s ∧ Ops h p s (lev h p) := by
  unfold fingerprint_steps.f
  rw [if_pos (by omega), if_pos (by omega)]
  exact opsF_ok hh hp _ h p [] [] rfl rfl (by omega)
/-! ### the reference's table of the least distances, and its cost -/
def frR (h c : List Int) (i j : Nat) : Int := (fr (h.take i).reverse (c.take j).reverse : Int)
def rowF (h c : List Int) (i m : Nat) : List Int := mapR (c.length + 1) (fun j => if j < m then frR h c i j else 0)
def tabF (h c : List Int) (n : Nat) : List (List Int) := mapR n (fun i => rowF h c i (c.length + 1))
theorem fr_len (a b : List Int) : fr a b ≤ a.length := fr_le (Ed.dels a) b
theorem frR_in (h c : List Int) (i j : Nat) : 0 ≤ frR h c i j ∧ frR h c i j ≤ h.length := by
  unfold frR
  have := fr_len (h.take i).reverse (c.take j).reverse
  simp only [List.length_reverse, List.length_take] at this
  omega
theorem rowF_set (h c : List Int) (i m : Nat) (v : Int) (hv : v = frR h c i m) : (rowF h c i m).set m v = rowF h c i (m + 1) := by
  unfold rowF
  rw [mapR_set]
  refine mapR_congr (fun j _ => ?_)
  by_cases g : j = m
  · subst g; rw [if_pos rfl, if_pos (by omega), hv]
  · rw [if_neg g]
    by_cases q : j < m
    · rw [if_pos q, if_pos (by omega)]
    · rw [if_neg q, if_neg (by omega)]
theorem rowF_set2 (h c : List Int) (i m : Nat) (u v : Int) (hv : v = frR h c i m) : ((rowF h c i m).set m u).set m v = rowF h c i (m + 1) := by
  rw [List.set_set, rowF_set h c i m v hv]
theorem rowF_zero (h c : List Int) (i : Nat) : rowF h c i 0 = List.replicate (c.length + 1) 0 := by
  unfold rowF mapR
  apply List.ext_getElem
  · simp
  · intro j h1 h2
    simp only [List.length_map, List.length_range] at h1
    simp only [List.getElem_map, List.getElem_range, List.getElem_replicate]
    rw [if_neg (by omega)]
theorem tabF_snoc (h c : List Int) (n : Nat) : tabF h c n ++ [rowF h c n (c.length + 1)] = tabF h c (n + 1) := by
  unfold tabF mapR
  rw [List.range_succ, List.map_append]
  rfl
theorem rd_set_eq {l : List Int} {i : Nat} (h : i < l.length) (v : Int) : rd (l.set i v) (i : Int) = v := by
  unfold rd
  rw [Int.toNat_natCast, List.getD_eq_getElem?_getD, List.getElem?_set_self h]
  rfl
theorem rev_take {l : List Int} {i : Nat} (h : i < l.length) : (l.take (i + 1)).reverse = l[i] :: (l.take i).reverse := by
  rw [List.take_succ_eq_append_getElem h, List.reverse_append]
  rfl
theorem tab_l1 (h c : List Int) (hh : h.length ≤ 60) (hc : c.length ≤ 60) (i : Nat) (hi : i + 1 ≤ h.length) : ∀ (d m k k' : Nat), c.length + 1 - m = d → m ≤ c.length + 1 → k = k' + 2 * d + 2 → aircheckref36_Table.l1 k h c (tabF h c (i + 1)) ((i + 1 : Nat) : Int) (rowF h c (i + 1) m) (m : Int) = aircheckref36_Table.l0 k' h c (tabF h c (i + 2)) ((i + 2 : Nat) : Int)
  | d, m, k, k', hd, hm, hk => by
    subst hk
    unfold aircheckref36_Table.l1
    have hlen : (tabF h c (i + 1)).length = i + 1 := mapR_length _ _
    by_cases g : m = c.length + 1
    · rw [if_neg (by omega)]
      unfold aircheckref36_Table.j3
      rw [if_neg (by decide), hlen, if_pos (by omega), g, tabF_snoc, wrap_id (by omega) (by omega), show ((i + 1 : Nat) : Int) + 1 = ((i + 2 : Nat) : Int) by omega, show d = 0 by omega]
      rfl
    · rw [if_pos (by omega), show decide (((i + 1 : Nat) : Int) > 0) = true from decide_eq_true (by omega)]
      obtain ⟨d, rfl⟩ : ∃ e, d = e + 1 := ⟨d - 1, by omega⟩
      have ih := tab_l1 h c hh hc i hi d (m + 1) (k' + 2 * d + 2) k' (by omega) (by omega) rfl
      rw [show k' + 2 * (d + 1) + 1 = (k' + 2 * d + 2) + 1 by omega]
      have hup : rd_L1 (tabF h c (i + 1)) (i : Int) = rowF h c i (c.length + 1) := by unfold tabF; rw [rdL_mapR _ (by omega)]
      have hul : (rowF h c i (c.length + 1)).length = c.length + 1 := mapR_length _ _
      have hrl : (rowF h c (i + 1) m).length = c.length + 1 := mapR_length _ _
      have u0 : rd (rowF h c i (c.length + 1)) (m : Int) = frR h c i m := by unfold rowF; rw [rd_mapR _ (by omega), if_pos (by omega)]
      have b0 := frR_in h c i m
      have hx : i < h.length := by omega
      by_cases q : m = 0
      · subst q
        have hs := rowF_set h c (i + 1) 0 (frR h c i 0 + 1) (by
          unfold frR
          simp only [List.take_zero, List.reverse_nil, fr_nil', List.length_reverse, List.length_take]
          omega)
        obtain ⟨T, hT⟩ : ∃ T, tabF h c (i + 1) = T := ⟨_, rfl⟩
        obtain ⟨U, hU⟩ : ∃ U, rowF h c i (c.length + 1) = U := ⟨_, rfl⟩
        obtain ⟨R, hR⟩ : ∃ R, rowF h c (i + 1) 0 = R := ⟨_, rfl⟩
        obtain ⟨R', hR'⟩ : ∃ R, rowF h c (i + 1) (0 + 1) = R := ⟨_, rfl⟩
        obtain ⟨f0, hf⟩ : ∃ f, frR h c i 0 = f := ⟨_, rfl⟩
        rw [hT] at hlen hup ih ⊢
        rw [hU] at hup hul u0
        rw [hR] at hrl hs ⊢
        rw [hR'] at hs ih
        rw [hf] at u0 b0 hs
        unfold aircheckref36_Table.j3
        rw [if_pos rfl, wrap_id (x := ((i + 1 : Nat) : Int) - 1) (by omega) (by omega), show ((i + 1 : Nat) : Int) - 1 = (i : Int) by omega, hlen, hup, hul, hrl, u0]
        rw [if_pos (by omega), if_pos (by omega), if_pos (by omega), if_pos (by omega), if_pos (by omega), Option.bind_some, wrap_id (x := f0 + 1) (by omega) (by omega), Int.toNat_natCast, if_neg (by omega), hs, wrap_id (x := ((0 : Nat) : Int) + 1) (by omega) (by omega)]
        exact ih
      · obtain ⟨m, rfl⟩ : ∃ n, m = n + 1 := ⟨m - 1, by omega⟩
        have hy : m < c.length := by omega
        have v0 : rd ((rowF h c (i + 1) (m + 1)).set (m + 1) (frR h c i (m + 1) + 1)) ((m + 1 : Nat) : Int) = frR h c i (m + 1) + 1 := by
          exact rd_set_eq (by rw [hrl]; omega) _
        have v1 : rd ((rowF h c (i + 1) (m + 1)).set (m + 1) (frR h c i (m + 1) + 1)) (m : Int) = frR h c (i + 1) m := by
          have : rd (rowF h c (i + 1) (m + 1)) (m : Int) = frR h c (i + 1) m := by unfold rowF; rw [rd_mapR _ (by omega), if_pos (by omega)]
          rw [← this]
          unfold rd; rw [Int.toNat_natCast]; simp [List.getD_eq_getElem?_getD]
        have v2 : rd (rowF h c i (c.length + 1)) (m : Int) = frR h c i m := by unfold rowF; rw [rd_mapR _ (by omega), if_pos (by omega)]
        have b1 := frR_in h c (i + 1) m
        have b2 := frR_in h c i m
        have b4 : ne01 h[i] c[m] ≤ 1 := by unfold ne01; split <;> omega
        have hs := rowF_set2 h c (i + 1) (m + 1) (frR h c i (m + 1) + 1) (mn (mn (frR h c i (m + 1) + 1) (frR h c (i + 1) m + 1)) (frR h c i m + ((ne01 h[i] c[m] : Nat) : Int))) (by
          have hl := fr_cons h[i] c[m] (h.take i).reverse (c.take m).reverse
          rw [← rev_take hx, ← rev_take hy] at hl
          unfold frR
          rw [hl]
          unfold mn
          split <;> split <;> omega)
        have hd' : aircheckref36_differ.f h[i] c[m] = some ((ne01 h[i] c[m] : Nat) : Int) := by unfold aircheckref36_differ.f ne01; split <;> rfl
        have g1 := rd_get hx
        have g2 := rd_get hy
        obtain ⟨T, hT⟩ : ∃ T, tabF h c (i + 1) = T := ⟨_, rfl⟩
        obtain ⟨U, hU⟩ : ∃ U, rowF h c i (c.length + 1) = U := ⟨_, rfl⟩
        obtain ⟨R, hR⟩ : ∃ R, rowF h c (i + 1) (m + 1) = R := ⟨_, rfl⟩
        obtain ⟨R', hR'⟩ : ∃ R, rowF h c (i + 1) (m + 1 + 1) = R := ⟨_, rfl⟩
        obtain ⟨f0, hf0⟩ : ∃ f, frR h c i (m + 1) = f := ⟨_, rfl⟩
        obtain ⟨f1, hf1⟩ : ∃ f, frR h c (i + 1) m = f := ⟨_, rfl⟩
        obtain ⟨f2, hf2⟩ : ∃ f, frR h c i m = f := ⟨_, rfl⟩
        obtain ⟨e, he⟩ : ∃ f : Nat, ne01 h[i] c[m] = f := ⟨_, rfl⟩
        obtain ⟨hq, hhq⟩ : ∃ f, h[i] = f := ⟨_, rfl⟩
        obtain ⟨cq, hcq⟩ : ∃ f, c[m] = f := ⟨_, rfl⟩
        rw [he] at hd' hs b4
        rw [hhq] at g1 hd'
        rw [hcq] at g2 hd'
        rw [hT] at hlen hup ih ⊢
        rw [hU] at hup hul u0 v2
        rw [hR] at hrl hs v0 v1 ⊢
        rw [hR'] at hs ih
        rw [hf0] at u0 b0 hs v0 v1
        rw [hf1] at v1 b1 hs
        rw [hf2] at v2 b2 hs
        clear hT hU hR hR' hf0 hf1 hf2 he hhq hcq
        obtain ⟨R1, hR1⟩ : ∃ R1, R.set (m + 1) (f0 + 1) = R1 := ⟨_, rfl⟩
        have hl1 : R1.length = c.length + 1 := by rw [← hR1, List.length_set, hrl]
        rw [hR1] at v0 v1 hs
        unfold aircheckref36_Table.j3
        rw [if_pos rfl, wrap_id (x := ((i + 1 : Nat) : Int) - 1) (by omega) (by omega), show ((i + 1 : Nat) : Int) - 1 = (i : Int) by omega, hlen, hup, hul, hrl, u0]
        rw [if_pos (by omega), if_pos (by omega), if_pos (by omega), if_pos (by omega), if_pos (by omega), Option.bind_some, wrap_id (x := f0 + 1) (by omega) (by omega), Int.toNat_natCast, hR1]
        rw [if_pos (by omega), wrap_id (x := ((m + 1 : Nat) : Int) - 1) (by omega) (by omega), show ((m + 1 : Nat) : Int) - 1 = (m : Int) by omega, v0, v1, v2, g1, g2]
        rw [if_pos (by omega), if_pos (by omega), if_pos (by omega), if_pos (by omega), if_pos (by omega)]
        rw [hd', Option.bind_some, wrap_id (x := f1 + 1) (by omega) (by omega), wrap_id (x := f2 + (e : Int)) (by omega) (by omega), hs, wrap_id (x := ((m + 1 : Nat) : Int) + 1) (by omega) (by omega)]
        exact ih
theorem tab_l0 (h c : List Int) (hh : h.length ≤ 60) (hc : c.length ≤ 60) : ∀ (d i k : Nat), h.length - i = d → i ≤ h.length → (d + 1) * (2 * c.length + 10) ≤ k → aircheckref36_Table.l0 k h c (tabF h c (i + 1)) ((i + 1 : Nat) : Int) = some (tabF h c (h.length + 1), 0)
  | d, i, k, hd, hi, hk => by
    have e : (d + 1) * (2 * c.length + 10) = d * (2 * c.length + 10) + (2 * c.length + 10) := Nat.succ_mul _ _
    obtain ⟨k', rfl⟩ : ∃ q, k = q + 2 * (c.length + 1) + 2 + 1 := ⟨k - (2 * c.length + 5), by omega⟩
    unfold aircheckref36_Table.l0
    by_cases g : i < h.length
    · rw [if_pos (by omega), wrap_id (x := (c.length : Int) + 1) (by omega) (by omega), if_pos (by omega), if_pos (by omega), show ((c.length : Int) + 1).toNat = c.length + 1 by omega, ← rowF_zero h c (i + 1)]
      have h1 := tab_l1 h c hh hc i (by omega) (c.length + 1) 0 (k' + 2 * (c.length + 1) + 2) k' (by omega) (by omega) rfl
      rw [show ((0 : Nat) : Int) = 0 from rfl] at h1
      rw [h1]
      have e2 : (h.length - (i + 1) + 1) * (2 * c.length + 10) ≤ d * (2 * c.length + 10) := Nat.mul_le_mul_right _ (by omega)
      exact tab_l0 h c hh hc (h.length - (i + 1)) (i + 1) k' rfl (by omega) (by omega)
    · rw [if_neg (by omega), show i = h.length by omega]
  termination_by d i k _ _ _ => h.length - i
theorem rowG_map (D : List Int → List Int → Nat) (A c : List Int) : rowG D A [] c = mapR (c.length + 1) (fun j => (D A (c.take j).reverse : Int)) := by
  apply List.ext_getElem?
  intro j
  by_cases hj : j ≤ c.length
  · rw [rowG_get D A c [] j hj]
    simp [mapR, List.getElem?_map, List.getElem?_range (show j < c.length + 1 by omega)]
  · rw [List.getElem?_eq_none (by rw [rowG_length]; omega), List.getElem?_eq_none (by rw [mapR_length]; omega)]
theorem rowsP_tab (h c : List Int) (hh : h.length ≤ 60) (hc : c.length ≤ 60) : fp_rowsP h c true = tabF h c (h.length + 1) := by
  have hl : (fp_rowsP h c true).length = h.length + 1 := by unfold fp_rowsP; simp [fp_rowsF_length]
  apply List.ext_getElem
  · rw [hl]; exact (mapR_length _ _).symm
  · intro i h1 h2
    have hi : i ≤ h.length := by omega
    have e1 : (fp_rowsP h c true)[i] = (fp_rowsP h c true).getD i [] := by simp [List.getD_eq_getElem?_getD, h1]
    have e2 : (tabF h c (h.length + 1))[i] = (tabF h c (h.length + 1)).getD i [] := by simp [List.getD_eq_getElem?_getD, h2]
    rw [e1, e2, rowsP_getD h c true hi, lastP_eq _ _ _ (by rw [List.length_take]; omega) (by omega), show tabD true = fr from rfl, rowG_map, show (tabF h c (h.length + 1)).getD i [] = rowF h c i (c.length + 1) from mapR_get _ _ (by omega)]
    unfold rowF
    refine mapR_congr (fun j hj => ?_)
    rw [if_pos hj]
    rfl
theorem rtab_f (h c : List Int) {k : Nat} (hk : 10000 ≤ k) : aircheckref36_Table.f k h c = fingerprint_Table.f h c := by
  unfold aircheckref36_Table.f fingerprint_Table.f
  rw [rheard_f h (by omega), rprint_f c (by omega), Option.bind_some]
  obtain ⟨k, rfl⟩ : ∃ q, k = q + 1 + 1 + 1 + 1 := ⟨k - 4, by omega⟩
  by_cases ha : fp_heardB h = true
  · rw [if_pos ha, Option.bind_some]
    simp only [aircheckref36_Table.j0]
    by_cases hb : fp_printB c = true
    · have hh := (heardB_hd ha).1
      have hc := (printB_pr hb).2.1
      rw [hb, if_neg (show ¬ ((!true) = true) by decide), if_pos ⟨ha, rfl⟩, rowsP_tab h c hh hc]
      -- the first row
      unfold aircheckref36_Table.l0
      rw [if_pos (by omega), wrap_id (x := (c.length : Int) + 1) (by omega) (by omega), if_pos (by omega), if_pos (by omega)]
      unfold aircheckref36_Table.l1
      rw [if_pos (by omega), show decide ((0 : Int) > 0) = false from rfl]
      unfold aircheckref36_Table.j3
      rw [if_neg (by decide), if_pos (by decide), show ((c.length : Int) + 1).toNat = c.length + 1 by omega]
      have h0 : ([] : List (List Int)) ++ [List.replicate (c.length + 1) (0 : Int)] = tabF h c 1 := by
        unfold tabF mapR rowF
        rw [List.range_one, List.map_singleton, List.nil_append]
        congr 1
        unfold mapR
        apply List.ext_getElem
        · simp
        · intro j h1 h2
          simp only [List.length_replicate] at h1
          simp only [List.getElem_map, List.getElem_range, List.getElem_replicate]
          rw [if_pos h1]
          unfold frR
          rw [List.take_zero, List.reverse_nil, fr_nil]
          rfl
      rw [h0, wrap_id (by omega) (by omega)]
      have h1 := tab_l0 h c hh hc h.length 0 k (by omega) (by omega) (by
        have : (h.length + 1) * (2 * c.length + 10) ≤ 61 * 130 := Nat.mul_le_mul (by omega) (by omega)
        omega)
      exact h1
    · rw [show (!fp_printB c) = true by simpa using hb, if_pos rfl, if_neg (fun q => hb q.2)]
  · rw [if_neg ha]
    simp only [aircheckref36_Table.j0]
    rw [if_true, if_neg (fun q => ha q.1)]
theorem rcost_f (h c : List Int) {k : Nat} (hk : 10000 ≤ k) : aircheckref36_Cost.f k h c = fingerprint_Cost.f k h c := by
  unfold aircheckref36_Cost.f
  rw [rtab_f h c hk]
  unfold fingerprint_Table.f
  rw [Option.bind_some]
  by_cases hab : fp_heardB h = true ∧ fp_printB c = true
  · rw [if_pos hab]
    have Hh := heardB_hd hab.1
    have Hc := printB_pr hab.2
    obtain ⟨n, e, hn⟩ := cost_f Hh Hc (k := k) (by omega)
    obtain ⟨n', e', hn'⟩ := cost_row h c
    obtain rfl := hn.eq hn'
    rw [e, rowsP_tab h c Hh.1 Hc.2.1]
    have hlen : (tabF h c (h.length + 1)).length = h.length + 1 := mapR_length _ _
    have hrow : rd_L1 (tabF h c (h.length + 1)) (h.length : Int) = rowG fr h.reverse [] c := by
      unfold tabF
      rw [rdL_mapR _ (by omega), rowG_map]
      unfold rowF
      refine mapR_congr (fun j hj => ?_)
      rw [if_pos hj]
      unfold frR
      rw [List.take_length]
    show (if (0 : Int) = 0 then _ else _) = _
    rw [if_pos rfl, if_pos (by omega), hlen, if_pos (by omega), hrow, least_f (by rw [rowG_length]; omega) (by rw [rowG_length]; have := Hc.2.1; omega) (by omega), e']
    rfl
  · rw [if_neg hab]
    show (if (360 : Int) = 0 then _ else _) = _
    rw [if_neg (by decide)]
    unfold fingerprint_Cost.f
    rw [heard_b, Option.bind_some]
    by_cases ha : fp_heardB h = true
    · rw [if_pos ha, print_b, Option.bind_some]
      have hb : fp_printB c = false := by
        cases hq : fp_printB c with
        | true => exact absurd ⟨ha, hq⟩ hab
        | false => rfl
      obtain ⟨k, rfl⟩ : ∃ q, k = q + 1 := ⟨k - 1, by omega⟩
      rw [hb]
      rfl
    · rw [if_neg ha]
      obtain ⟨k, rfl⟩ : ∃ q, k = q + 1 := ⟨k - 1, by omega⟩
      rfl
/-! ### the reference's operations are the steps -/
theorem errT_at {h p : List Int} (hh : h.length ≤ 60) (hp : p.length ≤ 60) (i j a b : Nat) (ha : a = (h.drop i).length) (hb : b = (p.drop j).length) : fp_errT (fp_tableB h p) a b = (lev (h.drop i) (p.drop j) : Int) := by
  subst ha hb
  exact errT_eq (h1 := h.take i) (p1 := p.take j) (List.take_append_drop i h).symm (List.take_append_drop j p).symm hh hp
set_option maxHeartbeats 4000000 in
theorem rops_l0 {h p : List Int} (hh : h.length ≤ 60) (hp : p.length ≤ 60) (T : List (List Int)) (hErr : ∀ i j a b : Nat, a = (h.drop i).length → b = (p.drop j).length → fp_errT T a b = (lev (h.drop i) (p.drop j) : Int)) (R : List (List Int)) (hl : R.length = h.length + 1) (hr : ∀ i : Nat, i ≤ h.length → (rd_L1 R (i : Int)).length = p.length + 1)
    (hE : ∀ i j : Nat, i ≤ h.length → j ≤ p.length → rd (rd_L1 R (i : Int)) (j : Int) = (lev (h.drop i) (p.drop j) : Int)) :
    ∀ (n i j K k1 : Nat) (out s : List Int), i ≤ h.length → j ≤ p.length → (h.length - i) + (p.length - j) ≤ n → 5 * n + 6 ≤ K → n < k1 → out.length + n ≤ 1000 → fp_opsF T k1 (h.drop i) (p.drop j) = some s → aircheckref36_ops.l0 K h p R out (i : Int) (j : Int) = some (out ++ s) := by
  intro n
  induction n with
  | zero =>
    intro i j K k1 out s hi hj hn hK hk ho hs
    obtain ⟨K, rfl⟩ : ∃ q, K = q + 1 + 1 := ⟨K - 2, by omega⟩
    obtain ⟨k1, rfl⟩ : ∃ q, k1 = q + 1 := ⟨k1 - 1, by omega⟩
    rw [List.drop_eq_nil_of_le (show h.length ≤ i by omega), List.drop_eq_nil_of_le (show p.length ≤ j by omega)] at hs
    simp only [fp_opsF, Option.some.injEq] at hs
    subst hs
    simp only [aircheckref36_ops.l0, aircheckref36_ops.j1]
    rw [if_neg (by omega), show decide ((j : Int) < (p.length : Int)) = false from decide_eq_false (by omega), if_neg (by decide), List.append_nil]
  | succ n ih =>
    intro i j K k1 out s hi hj hn hK hk ho hs
    obtain ⟨K, rfl⟩ : ∃ q, K = q + 1 + 1 + 1 + 1 + 1 := ⟨K - 5, by omega⟩
    obtain ⟨k1, rfl⟩ : ∃ q, k1 = q + 1 := ⟨k1 - 1, by omega⟩
    have hwi : Aside0 (wrap64 ((i : Int) + 1) = ((i + 1 : Nat) : Int)) := ⟨by rw [wrap_id (by omega) (by omega)]; omega⟩
    have hwj : Aside0 (wrap64 ((j : Int) + 1) = ((j + 1 : Nat) : Int)) := ⟨by rw [wrap_id (by omega) (by omega)]; omega⟩
    have hlv : ∀ i' j' : Nat, (lev (h.drop i') (p.drop j') : Int) ≤ 120 := fun i' j' => by
      have := lev_len (h.drop i') (p.drop j')
      simp only [List.length_drop] at this
      omega
    have hw1 : ∀ i' j' : Nat, wrap64 ((lev (h.drop i') (p.drop j') : Int) + 1) = (lev (h.drop i') (p.drop j') : Int) + 1 := fun i' j' => wrap_id (by omega) (by have := hlv i' j'; omega)
    have hgo : ∀ (K' : Nat) (c : Int) (i' j' : Nat) (s' : List Int), K ≤ K' → i' ≤ h.length → j' ≤ p.length → (h.length - i') + (p.length - j') ≤ n → fp_opsF T k1 (h.drop i') (p.drop j') = some s' → s = c :: s' → aircheckref36_ops.l0 K' h p R (out ++ [c]) (i' : Int) (j' : Int) = some (out ++ s) := fun K' c i' j' s' h0 h1 h2 h3 h4 h5 => by
      rw [ih i' j' K' k1 (out ++ [c]) s' h1 h2 h3 (by omega) (by omega) (by simp; omega) h4, h5]
      simp
    have hol : out.length < 17592186044416 := by omega
    by_cases a : i < h.length
    · by_cases b : j < p.length
      · -- both
        rw [List.drop_eq_getElem_cons a, List.drop_eq_getElem_cons b] at hs
        simp only [fp_opsF] at hs
        have e00 : fp_errT T ((h.drop (i + 1)).length + 1) ((p.drop (j + 1)).length + 1) = (lev (h.drop i) (p.drop j) : Int) := hErr i j _ _ (by simp; omega) (by simp; omega)
        have e11 : fp_errT T (h.drop (i + 1)).length (p.drop (j + 1)).length = (lev (h.drop (i + 1)) (p.drop (j + 1)) : Int) := hErr (i + 1) (j + 1) _ _ rfl rfl
        have e10 : fp_errT T (h.drop (i + 1)).length ((p.drop (j + 1)).length + 1) = (lev (h.drop (i + 1)) (p.drop j) : Int) := hErr (i + 1) j _ _ rfl (by simp; omega)
        rw [e00, e11, e10, hw1, hw1] at hs
        have c1 : (0 : Int) ≤ (i : Int) := by omega
        have c2 : (0 : Int) ≤ (j : Int) := by omega
        have c3 : (i : Int) < (h.length : Int) := by omega
        have c4 : (j : Int) < (p.length : Int) := by omega
        have c5 : (i : Int) < ((h.length + 1 : Nat) : Int) := by omega
        have c6 : (j : Int) < ((p.length + 1 : Nat) : Int) := by omega
        have c7 : (0 : Int) ≤ ((i + 1 : Nat) : Int) := by omega
        have c8 : (0 : Int) ≤ ((j + 1 : Nat) : Int) := by omega
        have c9 : ((i + 1 : Nat) : Int) < ((h.length + 1 : Nat) : Int) := by omega
        have c10 : ((j + 1 : Nat) : Int) < ((p.length + 1 : Nat) : Int) := by omega
        have hri := hr i (by omega)
        have hri1 := hr (i + 1) (by omega)
        have hEa := hE i j (by omega) (by omega)
        have hEb := hE (i + 1) (j + 1) (by omega) (by omega)
        have hEc := hE (i + 1) j (by omega) (by omega)
        have hwb := Aside0.mk (hw1 (i + 1) (j + 1))
        have hwc := Aside0.mk (hw1 (i + 1) j)
        obtain ⟨E0, hE0⟩ : ∃ e : Nat, lev (h.drop i) (p.drop j) = e := ⟨_, rfl⟩
        obtain ⟨E1, hE1⟩ : ∃ e : Nat, lev (h.drop (i + 1)) (p.drop (j + 1)) = e := ⟨_, rfl⟩
        obtain ⟨E2, hE2⟩ : ∃ e : Nat, lev (h.drop (i + 1)) (p.drop j) = e := ⟨_, rfl⟩
        rw [hE0, hE1, hE2] at hs
        rw [hE0] at hEa
        rw [hE1] at hEb hwb
        rw [hE2] at hEc hwc
        rw [aircheckref36_ops.l0, if_pos c3, aircheckref36_ops.j1, if_pos rfl, if_pos c3, show decide ((j : Int) < (p.length : Int)) = true from decide_eq_true c4, aircheckref36_ops.j2, if_pos rfl, if_pos c1, if_pos c3, if_pos c2, if_pos c4, rd_get a, rd_get b]
        have fin : aircheckref36_ops.j4 (K + 1) h p R out (i : Int) (j : Int) false = if (E0 : Int) = (E2 : Int) + 1 then aircheckref36_ops.l0 K h p R (out ++ [3]) ((i + 1 : Nat) : Int) (j : Int) else aircheckref36_ops.l0 K h p R (out ++ [4]) (i : Int) ((j + 1 : Nat) : Int) := by
          rw [aircheckref36_ops.j4, if_neg (by decide), if_pos c3, if_pos c1, hl, if_pos c5, if_pos c2, hri, if_pos c6, hwi.out, if_pos c7, if_pos c9, hri1, if_pos c6, hEa, hEc, hwc.out, if_pos hol, if_pos hol, hwj.out]
        have end_ : ¬ ((h[i] = p[j] ∧ (E1 : Int) = (E0 : Int)) ∨ (h[i] ≠ p[j] ∧ (E1 : Int) + 1 = (E0 : Int))) → aircheckref36_ops.j4 (K + 1) h p R out (i : Int) (j : Int) false = some (out ++ s) := fun hno => by
          rw [fin]
          rw [if_neg (fun w => hno (Or.inl w)), if_neg (fun w => hno (Or.inr w))] at hs
          by_cases g : (E2 : Int) + 1 = (E0 : Int)
          · rw [if_pos g] at hs
            obtain ⟨s', h4, h5⟩ := Option.map_eq_some_iff.1 hs
            rw [if_pos g.symm]
            exact hgo _ 3 (i + 1) j s' (by omega) (by omega) (by omega) (by omega) (by rw [List.drop_eq_getElem_cons b]; exact h4) h5.symm
          · rw [if_neg g] at hs
            obtain ⟨s', h4, h5⟩ := Option.map_eq_some_iff.1 hs
            rw [if_neg (fun w => g w.symm)]
            exact hgo _ 4 i (j + 1) s' (by omega) (by omega) (by omega) (by omega) (by rw [List.drop_eq_getElem_cons a]; exact h4) h5.symm
        by_cases xy : h[i] = p[j]
        · rw [if_pos xy, hl, if_pos c5, hri, if_pos c6, hwi.out, if_pos c7, if_pos c9, hwj.out, if_pos c8, hri1, if_pos c10, hEa, hEb]
          by_cases q : (E1 : Int) = (E0 : Int)
          · rw [if_pos ⟨xy, q⟩] at hs
            obtain ⟨s', h4, h5⟩ := Option.map_eq_some_iff.1 hs
            rw [show ((E0 : Int) == (E1 : Int)) = true from beq_iff_eq.2 q.symm, aircheckref36_ops.j3, if_pos rfl, if_pos hol, hwi.out, hwj.out]
            exact hgo _ 1 (i + 1) (j + 1) s' (by omega) (by omega) (by omega) (by omega) h4 h5.symm
          · rw [show ((E0 : Int) == (E1 : Int)) = false from beq_eq_false_iff_ne.2 (fun w => q w.symm), aircheckref36_ops.j3, if_neg (by decide), if_pos rfl, if_pos c1, if_pos c3, if_pos c2, if_pos c4, rd_get a, rd_get b, if_pos xy]
            exact end_ (fun w => by rcases w with ⟨_, w⟩ | ⟨w, _⟩; exact q w; exact w xy)
        · rw [if_neg xy, aircheckref36_ops.j3, if_neg (by decide), if_pos rfl, if_pos c1, if_pos c3, if_pos c2, if_pos c4, rd_get a, rd_get b, if_neg xy, hl, if_pos c5, hri, if_pos c6, hwi.out, if_pos c7, if_pos c9, hwj.out, if_pos c8, hri1, if_pos c10, hEa, hEb, hwb.out]
          by_cases q : (E1 : Int) + 1 = (E0 : Int)
          · rw [if_neg (fun w => xy w.1), if_pos ⟨xy, q⟩] at hs
            obtain ⟨s', h4, h5⟩ := Option.map_eq_some_iff.1 hs
            rw [show ((E0 : Int) == (E1 : Int) + 1) = true from beq_iff_eq.2 q.symm, aircheckref36_ops.j4, if_pos rfl, if_pos hol, hwi.out, hwj.out]
            exact hgo _ 2 (i + 1) (j + 1) s' (by omega) (by omega) (by omega) (by omega) h4 h5.symm
          · rw [show ((E0 : Int) == (E1 : Int) + 1) = false from beq_eq_false_iff_ne.2 (fun w => q w.symm)]
            exact end_ (fun w => by rcases w with ⟨w, _⟩ | ⟨_, w⟩; exact xy w; exact q w)
      · -- what was heard alone
        have hpn : p.drop j = [] := List.drop_eq_nil_of_le (by omega)
        have e0 : fp_errT T ((h.drop (i + 1)).length + 1) 0 = (lev (h.drop i) (p.drop j) : Int) := hErr i j _ _ (by simp; omega) (by simp; omega)
        have e1 : fp_errT T (h.drop (i + 1)).length 0 = (lev (h.drop (i + 1)) (p.drop j) : Int) := hErr (i + 1) j _ _ rfl (by simp; omega)
        rw [List.drop_eq_getElem_cons a, hpn] at hs
        simp only [fp_opsF] at hs
        rw [e0, e1, hw1] at hs
        split at hs
        next g =>
          obtain ⟨s', h4, h5⟩ := Option.map_eq_some_iff.1 hs
          have c1 : (0 : Int) ≤ (i : Int) := by omega
          have c2 : (0 : Int) ≤ (j : Int) := by omega
          have c3 : (i : Int) < (h.length : Int) := by omega
          have c5 : (i : Int) < ((h.length + 1 : Nat) : Int) := by omega
          have c6 : (j : Int) < ((p.length + 1 : Nat) : Int) := by omega
          have c7 : (0 : Int) ≤ ((i + 1 : Nat) : Int) := by omega
          have c9 : ((i + 1 : Nat) : Int) < ((h.length + 1 : Nat) : Int) := by omega
          rw [aircheckref36_ops.l0, if_pos c3, aircheckref36_ops.j1, if_pos rfl, if_pos c3, show decide ((j : Int) < (p.length : Int)) = false from decide_eq_false (by omega), aircheckref36_ops.j2, if_neg (by decide), aircheckref36_ops.j3, if_neg (by decide), if_neg (by decide)]
          rw [aircheckref36_ops.j4, if_neg (by decide), if_pos c3, if_pos c1, hl, if_pos c5, if_pos c2, hr i (by omega), if_pos c6, hwi.out, if_pos c7, if_pos c9, hr (i + 1) (by omega), if_pos c6, hE i j (by omega) (by omega), hE (i + 1) j (by omega) (by omega), hw1, if_pos g.symm, if_pos hol]
          exact hgo _ 3 (i + 1) j s' (by omega) (by omega) (by omega) (by omega) (by rw [hpn]; exact h4) h5.symm
        next => cases hs
    · -- the print's part alone
      have hhn : h.drop i = [] := List.drop_eq_nil_of_le (by omega)
      by_cases b : j < p.length
      · skip
        rw [hhn, List.drop_eq_getElem_cons b] at hs
        simp only [fp_opsF] at hs
        obtain ⟨s', h4, h5⟩ := Option.map_eq_some_iff.1 hs
        have c3 : ¬ (i : Int) < (h.length : Int) := by omega
        rw [aircheckref36_ops.l0, if_neg c3, show decide ((j : Int) < (p.length : Int)) = true from decide_eq_true (by omega), aircheckref36_ops.j1, if_pos rfl, if_neg c3, aircheckref36_ops.j2, if_neg (by decide), aircheckref36_ops.j3, if_neg (by decide), if_neg (by decide), aircheckref36_ops.j4, if_neg (by decide), if_neg c3, if_pos hol, hwj.out]
        exact hgo _ 4 i (j + 1) s' (by omega) (by omega) (by omega) (by omega) (by rw [hhn]; exact h4) h5.symm
      · rw [hhn, List.drop_eq_nil_of_le (show p.length ≤ j by omega)] at hs
        simp only [fp_opsF, Option.some.injEq] at hs
        subst hs
        rw [aircheckref36_ops.l0, if_neg (by omega), aircheckref36_ops.j1, show decide ((j : Int) < (p.length : Int)) = false from decide_eq_false (by omega), if_neg (by decide), List.append_nil]
theorem rops_f {h p : List Int} (hh : h.length ≤ 60) (hp : p.length ≤ 60) {k : Nat} (hk : 4000 ≤ k) : aircheckref36_ops.f k h p = fingerprint_steps.f h p := by
  obtain ⟨s, e, _⟩ := steps_f hh hp
  have e' := e
  unfold fingerprint_steps.f at e'
  rw [if_pos (by omega), if_pos (by omega)] at e'
  unfold aircheckref36_ops.f
  rw [rest_f hh hp hk, Option.bind_some, e]
  have := rops_l0 hh hp (fp_tableB h p) (fun i j a b => errT_at hh hp i j a b) (restP h p) (restP_length h p) (fun i hi => restP_row h p hi) (fun i j hi hj => restP_rd h p hi hj) (h.length + p.length) 0 0 k (h.length + p.length + 1) [] s (by omega) (by omega) (by omega) (by omega) (by omega) (by simp; omega) e'
  rw [show ((0 : Nat) : Int) = 0 from rfl] at this
  rw [this]
  rfl
end Go.Proofs.Ytgaepndbfpfniaa.PFR
