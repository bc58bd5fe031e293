-- PRINTED by print.py (a twelfth state) out of the translation. Not trusted: Lean checks it.
import Derived.Test.YtbhngbjopfjacaaPS15x17
import Derived.Test.YtbhngbjopfjacaaPS15x0
import Derived.Test.YtbhngbjopfjacaaPS15x3
import Derived.Test.YtbhngbjopfjacaaPS15x7
import Derived.Test.YtbhngbjopfjacaaPS15x8
import Derived.Test.YtbhngbjopfjacaaPS15x10
import Derived.Test.YtbhngbjopfjacaaPS15x11
import Derived.Test.YtbhngbjopfjacaaPS15x12
import Derived.Test.YtbhngbjopfjacaaPS15x16
namespace Go.Proofs.Ytbhngbjopfjacaa.PS15
open Go.RowKit Go.Proofs.YtbhngbjopfjacaaW.PrintWords Go.Proofs.YtbhngbjopfjacaaW.PrintLast Go.Proofs.YtbhngbjopfjacaaW.PrintMore
attribute [local go_sem] max2_int min2_int max_two min_two max_three min_three max_four min_four   -- for this text's walks alone
set_option linter.unusedVariables false
set_option linter.unusedSimpArgs false

/-! ### airchecklaw15_TimelinePaint: function 6 -/
def airchecklaw15_TimelinePaint.l0 : Nat → Int → List (S25) → List (S25) → Int → Int → Int → Int → Int → Int → Option (Bool)
  | 0, _, _, _, _, _, _, _, _, _ => none
  | k + 1, x9, x10, x12, x13, x14, x15, x16, x17, x18 => if x18 < (x10.length : Int) then (if 0 ≤ x18 then (if ((rd_T25 x10 x18).f0) ≤ x14 then (if x14 < ((rd_T25 x10 x18).f1) then (airchecklaw15_TimelinePaint.l0 k x9 x10 x12 x13 x14 x15 x16 ((rd_T25 x10 x18).f2) (wrap64 (x18 + 1))) else (airchecklaw15_TimelinePaint.l0 k x9 x10 x12 x13 x14 x15 x16 x17 (wrap64 (x18 + 1)))) else (airchecklaw15_TimelinePaint.l0 k x9 x10 x12 x13 x14 x15 x16 x17 (wrap64 (x18 + 1)))) else (none)) else (if x13 = 0 then (if x16 = 0 then (if x15 = x17 then ((timeline_Valid.f k x12).bind fun t284 => (if t284 = true then ((timeline_End.f k x12).bind fun t285 => (some (t285 == x9))) else (some false))) else (some false)) else (some false)) else (some false))
def airchecklaw15_TimelinePaint.f (k : Nat) (a0 : Int) (l1 : List (S29)) (a2 : Int) (a3 : Int) : Option (Bool) := (airchecklaw15_sane.f k).bind fun t268 => (if t268 = true then ((airchecklaw15_pick.f a0 400).bind fun t269 => ((aircheckref15_Spans.f k (wrap64 (1 + t269)) l1).bind fun t270 => ((airchecklaw15_pick.f a2 3000).bind fun t273 => ((timeline_Paint.f k (wrap64 (1 + t269)) t273 t270).bind fun bt274 => ((airchecklaw15_pick.f a3 (wrap64 (1 + t269))).bind fun t278 => ((timeline_At.f bt274.1 t278).bind fun bt279 => (airchecklaw15_TimelinePaint.l0 k (wrap64 (1 + t269)) t270 bt274.1 bt274.2 t278 bt279.1 bt279.2 t273 0))))))) else (some false))
theorem airchecklaw15_TimelinePaint.mono_l : ∀ k, (∀ y0 y1 y2 y3 y4 y5 y6 y7 y8, LeO (airchecklaw15_TimelinePaint.l0 k y0 y1 y2 y3 y4 y5 y6 y7 y8) (airchecklaw15_TimelinePaint.l0 (k + 1) y0 y1 y2 y3 y4 y5 y6 y7 y8))
  | 0 => fun _ _ _ _ _ _ _ _ _ r h => by simp [airchecklaw15_TimelinePaint.l0] at h
  | k + 1 => by
    have ih0 := airchecklaw15_TimelinePaint.mono_l k
    · intro y0 y1 y2 y3 y4 y5 y6 y7 y8
      unfold airchecklaw15_TimelinePaint.l0
      repeat' first
      | (with_reducible exact ih0 _ _ _ _ _ _ _ _ _)
      | (with_reducible exact airchecklaw15_sane.mono _)
      | (with_reducible exact aircheckref15_Spans.mono _ _ _)
      | (with_reducible exact timeline_End.mono _ _)
      | (with_reducible exact timeline_Paint.mono _ _ _ _)
      | (with_reducible exact timeline_Valid.mono _ _)
      | (with_reducible exact LeO.refl _)
      | (with_reducible exact LeO.none _)
      | (with_reducible refine LeO.ite ?_ ?_)
      | (with_reducible refine LeO.bind ?_ (fun _ => ?_))
      | exact ih0 _ _ _ _ _ _ _ _ _
      | exact airchecklaw15_sane.mono _
      | exact aircheckref15_Spans.mono _ _ _
      | exact timeline_End.mono _ _
      | exact timeline_Paint.mono _ _ _ _
      | exact timeline_Valid.mono _ _
      | exact LeO.none _
      | refine LeO.ite ?_ ?_
      | refine LeO.bind ?_ (fun _ => ?_)
theorem airchecklaw15_TimelinePaint.mono : ∀ a0 a1 a2 a3 k, LeO (airchecklaw15_TimelinePaint.f k a0 a1 a2 a3) (airchecklaw15_TimelinePaint.f (k + 1) a0 a1 a2 a3) := by
  intro a0 a1 a2 a3 k
  have ih0 := airchecklaw15_TimelinePaint.mono_l k
  unfold airchecklaw15_TimelinePaint.f
  repeat' first
      | (with_reducible exact ih0 _ _ _ _ _ _ _ _ _)
      | (with_reducible exact airchecklaw15_sane.mono _)
      | (with_reducible exact aircheckref15_Spans.mono _ _ _)
      | (with_reducible exact timeline_End.mono _ _)
      | (with_reducible exact timeline_Paint.mono _ _ _ _)
      | (with_reducible exact timeline_Valid.mono _ _)
      | (with_reducible exact LeO.refl _)
      | (with_reducible exact LeO.none _)
      | (with_reducible refine LeO.ite ?_ ?_)
      | (with_reducible refine LeO.bind ?_ (fun _ => ?_))
      | exact ih0 _ _ _ _ _ _ _ _ _
      | exact airchecklaw15_sane.mono _
      | exact aircheckref15_Spans.mono _ _ _
      | exact timeline_End.mono _ _
      | exact timeline_Paint.mono _ _ _ _
      | exact timeline_Valid.mono _ _
      | exact LeO.none _
      | refine LeO.ite ?_ ?_
      | refine LeO.bind ?_ (fun _ => ?_)
set_option maxHeartbeats 8000000 in
set_option maxRecDepth 100000 in
theorem airchecklaw15_TimelinePaint.calls (k : Nat) (a0 : Int) (A1 : Option Addr) (c1 : Nat) (l1 : List (S29)) (a2 : Int) (a3 : Int) (r : Bool) (hr0 : Aside0 (r = true)) (w : World) (hr1 : Kd.C k29 w A1 l1.length l1) (hc1 : l1.length ≤ c1) (h : airchecklaw15_TimelinePaint.f k a0 l1 a2 a3 = some r) :
    Calls Try.prog 6 #[.int .i64 a0, .slice A1 l1.length c1, .int .i64 a2, .int .i64 a3] w fun e w' => e = .returned (.bool r) ∧ Below w.heap.size w w' := by
  have HR1 := Aside0.mk hr1
  have HC1 := Aside0.mk hc1
  clear hr1 hc1
  have HB := Aside0.mk (Below.refl w.heap.size w)
  have H : ((airchecklaw15_sane.f k).bind fun t268 => (if t268 = true then ((airchecklaw15_pick.f a0 400).bind fun t269 => ((aircheckref15_Spans.f k (wrap64 (1 + t269)) l1).bind fun t270 => ((airchecklaw15_pick.f a2 3000).bind fun t273 => ((timeline_Paint.f k (wrap64 (1 + t269)) t273 t270).bind fun bt274 => ((airchecklaw15_pick.f a3 (wrap64 (1 + t269))).bind fun t278 => ((timeline_At.f bt274.1 t278).bind fun bt279 => (airchecklaw15_TimelinePaint.l0 k (wrap64 (1 + t269)) t270 bt274.1 bt274.2 t278 bt279.1 bt279.2 t273 0))))))) else (some false))) = some r := h
  clear h
  replace H := Option.bind_eq_some_iff.mp H
  obtain ⟨t268, A50, H⟩ := H
  replace H : (if t268 = true then ((airchecklaw15_pick.f a0 400).bind fun t269 => ((aircheckref15_Spans.f k (wrap64 (1 + t269)) l1).bind fun t270 => ((airchecklaw15_pick.f a2 3000).bind fun t273 => ((timeline_Paint.f k (wrap64 (1 + t269)) t273 t270).bind fun bt274 => ((airchecklaw15_pick.f a3 (wrap64 (1 + t269))).bind fun t278 => ((timeline_At.f bt274.1 t278).bind fun bt279 => (airchecklaw15_TimelinePaint.l0 k (wrap64 (1 + t269)) t270 bt274.1 bt274.2 t278 bt279.1 bt279.2 t273 0))))))) else (some false)) = some r := H
  have A5 := Aside0.mk A50
  clear A50
  by_cases c6 : t268 = true
  · subst c6
    have H1 : ((airchecklaw15_pick.f a0 400).bind fun t269 => ((aircheckref15_Spans.f k (wrap64 (1 + t269)) l1).bind fun t270 => ((airchecklaw15_pick.f a2 3000).bind fun t273 => ((timeline_Paint.f k (wrap64 (1 + t269)) t273 t270).bind fun bt274 => ((airchecklaw15_pick.f a3 (wrap64 (1 + t269))).bind fun t278 => ((timeline_At.f bt274.1 t278).bind fun bt279 => (airchecklaw15_TimelinePaint.l0 k (wrap64 (1 + t269)) t270 bt274.1 bt274.2 t278 bt279.1 bt279.2 t273 0))))))) = some r := by rw [if_pos rfl] at H; exact H
    clear H
    have H := H1
    clear H1
    replace H := Option.bind_eq_some_iff.mp H
    obtain ⟨t269, A70, H⟩ := H
    replace H : ((aircheckref15_Spans.f k (wrap64 (1 + t269)) l1).bind fun t270 => ((airchecklaw15_pick.f a2 3000).bind fun t273 => ((timeline_Paint.f k (wrap64 (1 + t269)) t273 t270).bind fun bt274 => ((airchecklaw15_pick.f a3 (wrap64 (1 + t269))).bind fun t278 => ((timeline_At.f bt274.1 t278).bind fun bt279 => (airchecklaw15_TimelinePaint.l0 k (wrap64 (1 + t269)) t270 bt274.1 bt274.2 t278 bt279.1 bt279.2 t273 0)))))) = some r := H
    have A7 := Aside0.mk A70
    clear A70
    replace H := Option.bind_eq_some_iff.mp H
    obtain ⟨t270, A80, H⟩ := H
    replace H : ((airchecklaw15_pick.f a2 3000).bind fun t273 => ((timeline_Paint.f k (wrap64 (1 + t269)) t273 t270).bind fun bt274 => ((airchecklaw15_pick.f a3 (wrap64 (1 + t269))).bind fun t278 => ((timeline_At.f bt274.1 t278).bind fun bt279 => (airchecklaw15_TimelinePaint.l0 k (wrap64 (1 + t269)) t270 bt274.1 bt274.2 t278 bt279.1 bt279.2 t273 0))))) = some r := H
    have A8 := Aside0.mk A80
    clear A80
    replace H := Option.bind_eq_some_iff.mp H
    obtain ⟨t273, A90, H⟩ := H
    replace H : ((timeline_Paint.f k (wrap64 (1 + t269)) t273 t270).bind fun bt274 => ((airchecklaw15_pick.f a3 (wrap64 (1 + t269))).bind fun t278 => ((timeline_At.f bt274.1 t278).bind fun bt279 => (airchecklaw15_TimelinePaint.l0 k (wrap64 (1 + t269)) t270 bt274.1 bt274.2 t278 bt279.1 bt279.2 t273 0)))) = some r := H
    have A9 := Aside0.mk A90
    clear A90
    replace H := Option.bind_eq_some_iff.mp H
    obtain ⟨⟨t274, t275⟩, A100, H⟩ := H
    replace H : ((airchecklaw15_pick.f a3 (wrap64 (1 + t269))).bind fun t278 => ((timeline_At.f t274 t278).bind fun bt279 => (airchecklaw15_TimelinePaint.l0 k (wrap64 (1 + t269)) t270 t274 t275 t278 bt279.1 bt279.2 t273 0))) = some r := H
    have A10 := Aside0.mk A100
    clear A100
    replace H := Option.bind_eq_some_iff.mp H
    obtain ⟨t278, A110, H⟩ := H
    replace H : ((timeline_At.f t274 t278).bind fun bt279 => (airchecklaw15_TimelinePaint.l0 k (wrap64 (1 + t269)) t270 t274 t275 t278 bt279.1 bt279.2 t273 0)) = some r := H
    have A11 := Aside0.mk A110
    clear A110
    replace H := Option.bind_eq_some_iff.mp H
    obtain ⟨⟨t279, t280⟩, A120, H⟩ := H
    replace H : (airchecklaw15_TimelinePaint.l0 k (wrap64 (1 + t269)) t270 t274 t275 t278 t279 t280 t273 0) = some r := H
    have A12 := Aside0.mk A120
    clear A120
    have H' := Aside0.mk H
    clear H
    go_enter Try.func6, Try.ntmps6
    go_wp2_with (first | ((with_reducible refine gate_callee (f := 10) rfl ?_); refine goesL_ (some 19) rfl rfl Try.func10 (by kernel_rfl) rfl #[] rfl (by (try simp only [List.map_toArray, List.map_cons, List.map_nil]); first | done | rfl | (simp only [List.length_drop, List.length_take]; rfl)) ?_; (with_reducible refine (airchecklaw15_sane.calls k  true _ A5.out).mono ?_); rintro e w13 ⟨rfl, hb⟩; refine ⟨_, rfl, ?_⟩; have n0_ := Aside0.mk (below_step (by repeat (first | (with_reducible first | exact HB.out | apply below_alloc | apply pw_below_drewN | apply below_drew1) | exact HB.out)) hb); clear HB; have HB := n0_; clear n0_; (try clear hb); (try clear hb2); (try clear hk); (try clear hi)) | ((with_reducible refine gate_callee (f := 13) rfl ?_); refine goesL_ (some 22) rfl rfl Try.func13 (by kernel_rfl) rfl #[.int .i64 a0, .int .i64 400] rfl (by (try simp only [List.map_toArray, List.map_cons, List.map_nil]); first | done | rfl | (simp only [List.length_drop, List.length_take]; rfl)) ?_; (with_reducible refine (airchecklaw15_pick.calls a0 400 t269 _ A7.out).mono ?_); rintro e w' ⟨rfl, ⟨nd, rfl⟩⟩; refine ⟨_, rfl, ?_⟩) | ((with_reducible refine gate_callee (f := 12) rfl ?_); refine goesL_ (some 26) rfl rfl Try.func12 (by kernel_rfl) rfl #[.int .i64 (wrap64 (1 + t269)), .slice A1 l1.length c1] rfl (by (try simp only [List.map_toArray, List.map_cons, List.map_nil]); first | done | rfl | (simp only [List.length_drop, List.length_take]; rfl)) ?_; (with_reducible refine (aircheckref15_Spans.calls k (wrap64 (1 + t269)) _ _ l1 t270 _ ?side1 ?side2 A8.out).mono ?_); (case side1 => repeat (first | exact (Kd.C_below HR1.out (by repeat (first | (with_reducible first | exact HB.out | apply below_alloc | apply pw_below_drewN | apply below_drew1) | exact HB.out))) | (with_reducible refine Kd.C_alloc ?_ _) | (with_reducible refine Kd.C_drewN ?_ _) | (with_reducible refine Kd.C_drew ?_))); (case side2 => exact HC1.out); rintro e w14 ⟨v271, rfl, ho0, hb⟩; refine ⟨_, rfl, ?_⟩; have n0_ := Aside0.mk (Kd.R_lower ho0 (below_size (by repeat (first | (with_reducible first | exact HB.out | apply below_alloc | apply pw_below_drewN | apply below_drew1) | exact HB.out)))); have n1_ := Aside0.mk (below_step (by repeat (first | (with_reducible first | exact HB.out | apply below_alloc | apply pw_below_drewN | apply below_drew1) | exact HB.out)) hb); clear HB; have HO272 := n0_; have HB := n1_; clear n0_ n1_; (try clear hb); (try clear hb2); (try clear hk); (try clear hi); (try clear ho0)) | ((with_reducible refine gate_callee (f := 13) rfl ?_); refine goesL_ (some 28) rfl rfl Try.func13 (by kernel_rfl) rfl #[.int .i64 a2, .int .i64 3000] rfl (by (try simp only [List.map_toArray, List.map_cons, List.map_nil]); first | done | rfl | (simp only [List.length_drop, List.length_take]; rfl)) ?_; (with_reducible refine (airchecklaw15_pick.calls a2 3000 t273 _ A9.out).mono ?_); rintro e w' ⟨rfl, ⟨nd, rfl⟩⟩; refine ⟨_, rfl, ?_⟩; obtain ⟨Ao15, co15, eo15⟩ := Kd.R_slice HO272.out; subst eo15) | ((with_reducible refine gate_callee (f := 36) rfl ?_); refine goesL_ (some 33) rfl rfl Try.func36 (by kernel_rfl) rfl #[.int .i64 (wrap64 (1 + t269)), .int .i64 t273, .slice Ao15 t270.length co15] rfl (by (try simp only [List.map_toArray, List.map_cons, List.map_nil]); first | done | rfl | (simp only [List.length_drop, List.length_take]; rfl)) ?_; (with_reducible refine (timeline_Paint.calls k (wrap64 (1 + t269)) t273 _ _ t270 t274 t275 _ ?side1 ?side2 A10.out).mono ?_); (case side1 => repeat (first | exact (Kd.R_reads' HO272.out).2.2 | (with_reducible refine Kd.C_alloc ?_ _) | (with_reducible refine Kd.C_drewN ?_ _) | (with_reducible refine Kd.C_drew ?_))); (case side2 => exact (Kd.R_reads' HO272.out).2.1); rintro e w16 ⟨v276, rfl, ho0, hb⟩; refine ⟨_, rfl, ?_⟩; have n0_ := Aside0.mk (Kd.R_elder' (by (with_reducible repeat (first | apply Kd.R_alloc | apply Kd.R_drewN | apply Kd.R_drew)); exact HO272.out) (Kd.R_base ho0) hb); have n1_ := Aside0.mk (Kd.R_lower (Kd.R_new' ho0 (Kd.R_lt (by (with_reducible repeat (first | apply Kd.R_alloc | apply Kd.R_drewN | apply Kd.R_drew)); exact HO272.out))) (below_size (by repeat (first | (with_reducible first | exact HB.out | apply below_alloc | apply pw_below_drewN | apply below_drew1) | exact HB.out)))); have n2_ := Aside0.mk (below_step (by repeat (first | (with_reducible first | exact HB.out | apply below_alloc | apply pw_below_drewN | apply below_drew1) | exact HB.out)) hb); clear HO272; clear HB; have HO272 := n0_; have HO277 := n1_; have HB := n2_; clear n0_ n1_ n2_; (try clear hb); (try clear hb2); (try clear hk); (try clear hi); (try clear ho0)) | ((with_reducible refine gate_callee (f := 13) rfl ?_); refine goesL_ (some 38) rfl rfl Try.func13 (by kernel_rfl) rfl #[.int .i64 a3, .int .i64 (wrap64 (1 + t269))] rfl (by (try simp only [List.map_toArray, List.map_cons, List.map_nil]); first | done | rfl | (simp only [List.length_drop, List.length_take]; rfl)) ?_; (with_reducible refine (airchecklaw15_pick.calls a3 (wrap64 (1 + t269)) t278 _ A11.out).mono ?_); rintro e w' ⟨rfl, ⟨nd, rfl⟩⟩; refine ⟨_, rfl, ?_⟩; obtain ⟨Ao17, co17, eo17⟩ := Kd.R_slice HO277.out; subst eo17) | ((with_reducible refine gate_callee (f := 20) rfl ?_); refine goesL_ (some 42) rfl rfl Try.func20 (by kernel_rfl) rfl #[.slice Ao17 t274.length co17, .int .i64 t278] rfl (by (try simp only [List.map_toArray, List.map_cons, List.map_nil]); first | done | rfl | (simp only [List.length_drop, List.length_take]; rfl)) ?_; (with_reducible refine (timeline_At.calls _ _ t274 t278 t279 t280 _ ?side1 ?side2 A12.out).mono ?_); (case side1 => repeat (first | exact (Kd.R_reads' HO277.out).2.2 | (with_reducible refine Kd.C_alloc ?_ _) | (with_reducible refine Kd.C_drewN ?_ _) | (with_reducible refine Kd.C_drew ?_))); (case side2 => exact (Kd.R_reads' HO277.out).2.1); rintro e w18 ⟨rfl, hb⟩; refine ⟨_, rfl, ?_⟩; have n0_ := Aside0.mk (Kd.R_below (by (with_reducible repeat (first | apply Kd.R_alloc | apply Kd.R_drewN | apply Kd.R_drew)); exact HO272.out) hb); have n1_ := Aside0.mk (Kd.R_below (by (with_reducible repeat (first | apply Kd.R_alloc | apply Kd.R_drewN | apply Kd.R_drew)); exact HO277.out) hb); have n2_ := Aside0.mk (below_step (by repeat (first | (with_reducible first | exact HB.out | apply below_alloc | apply pw_below_drewN | apply below_drew1) | exact HB.out)) hb); clear HO272; clear HO277; clear HB; have HO272 := n0_; have HO277 := n1_; have HB := n2_; clear n0_ n1_ n2_; (try clear hb); (try clear hb2); (try clear hk); (try clear hi)))
    go_loopg [17, 18] k (fun kq v17 v18 w' => ∃ (x17_1 : Int) (x18_1 : Int), v17 = .int .i64 x17_1 ∧ v18 = .int .i64 x18_1 ∧ Aside0 (airchecklaw15_TimelinePaint.l0 kq (wrap64 (1 + t269)) t270 t274 t275 t278 t279 t280 x17_1 x18_1 = some r) ∧ Aside0 (kq ≤ k) ∧ Aside0 (Kd.R k25 25 w' w.heap.size (fun k_ => some k_ ≠ ((.slice Ao17 t274.length co17) : Value).ownBlock) (.slice Ao15 t270.length co15) t270) ∧ Aside0 (Kd.R k25 25 w' w.heap.size (fun k_ => some k_ ≠ ((.slice Ao15 t270.length co15) : Value).ownBlock) (.slice Ao17 t274.length co17) t274) ∧ Aside0 (Below w.heap.size w w'))
    case atStart => exact ⟨(t273), (0), (by first | rfl | (simp; done) | (simp [*]; done)), (by first | rfl | (simp; done) | (simp [*]; done)), H', ⟨Nat.le_refl _⟩, ⟨by (with_reducible repeat (first | apply Kd.R_alloc | apply Kd.R_drewN | apply Kd.R_drew)); exact Kd.R_mono HO272.out (fun _ hk => hk.2)⟩, ⟨by (with_reducible repeat (first | apply Kd.R_alloc | apply Kd.R_drewN | apply Kd.R_drew)); exact Kd.R_mono HO277.out (fun _ hk => hk.2)⟩, ⟨by repeat (first | (with_reducible first | exact HB.out | apply below_alloc | apply pw_below_drewN | apply below_drew1) | exact HB.out)⟩⟩
    case round => as_aux_lemma =>
      clear H'
      try clear c1
      try clear c2
      try clear p2
      try clear c3
      try clear c6
      try clear p6
      try clear c10
      try clear c12
      try clear c13
      obtain ⟨x17_1, x18_1, rfl, rfl, HA, HK1, HO_10, HO_12, HB⟩ := hrel
      cases gk with
      | zero => exact absurd HA.out (by simp [airchecklaw15_TimelinePaint.l0])
      | succ k1 =>
        have H := HA.out
        clear HA
        simp only [airchecklaw15_TimelinePaint.l0] at H
        by_cases c19 : x18_1 < (t270.length : Int)
        · rw [if_pos c19] at H
          have c19b0 : decide (x18_1 < (t270.length : Int)) = true := decide_eq_true c19
          clear c19
          by_cases c20 : 0 ≤ x18_1
          · rw [if_pos c20] at H
            have c20b0 : decide (0 ≤ x18_1) = true := decide_eq_true c20
            clear c20
            by_cases c21 : ((rd_T25 t270 x18_1).f0) ≤ t278
            · rw [if_pos c21] at H
              have c21b0 : decide (((rd_T25 t270 x18_1).f0) ≤ t278) = true := decide_eq_true c21
              clear c21
              by_cases c22 : t278 < ((rd_T25 t270 x18_1).f1)
              · rw [if_pos c22] at H
                have c22b0 : decide (t278 < ((rd_T25 t270 x18_1).f1)) = true := decide_eq_true c22
                clear c22
                have H' := Aside0.mk H
                clear H
                have p281 : 0 ≤ (x18_1 : Int) := of_decide_eq_true (by first | (with_reducible assumption) | assumption)
                have q281 : x18_1 < (t270.length : Int) := of_decide_eq_true (by first | (with_reducible assumption) | assumption)
                obtain ⟨ad281, e281, hx281_0, hx281_1, hx281_2⟩ := at_T25 (Kd.R_reads' HO_10.out).2.2 x18_1 p281 q281
                cases e281
                replace p281 := eq_true p281
                replace q281 := eq_true q281
                have p282 : 0 ≤ (x18_1 : Int) := of_decide_eq_true (by first | (with_reducible assumption) | assumption)
                have q282 : x18_1 < (t270.length : Int) := of_decide_eq_true (by first | (with_reducible assumption) | assumption)
                obtain ⟨ad282, e282, hx282_0, hx282_1, hx282_2⟩ := at_T25 (Kd.R_reads' HO_10.out).2.2 x18_1 p282 q282
                obtain rfl : ad281 = ad282 := (by injection e282)
                replace p282 := eq_true p282
                replace q282 := eq_true q282
                have p283 : 0 ≤ (x18_1 : Int) := of_decide_eq_true (by first | (with_reducible assumption) | assumption)
                have q283 : x18_1 < (t270.length : Int) := of_decide_eq_true (by first | (with_reducible assumption) | assumption)
                obtain ⟨ad283, e283, hx283_0, hx283_1, hx283_2⟩ := at_T25 (Kd.R_reads' HO_10.out).2.2 x18_1 p283 q283
                obtain rfl : ad281 = ad283 := (by injection e283)
                replace p283 := eq_true p283
                replace q283 := eq_true q283
                go_wp2
                go_roundg k1
                case measure => have := HK1.out; omega
                case rel => exact ⟨((rd_T25 t270 x18_1).f2), (wrap64 (x18_1 + 1)), (by first | rfl | (simp; done) | (simp [*]; done)), (by first | rfl | (simp; done) | (simp [*]; done)), H', ⟨by have := HK1.out; omega⟩, ⟨by (with_reducible repeat (first | apply Kd.R_alloc | apply Kd.R_drewN | apply Kd.R_drew)); exact HO_10.out⟩, ⟨by (with_reducible repeat (first | apply Kd.R_alloc | apply Kd.R_drewN | apply Kd.R_drew)); exact HO_12.out⟩, ⟨by repeat (first | (with_reducible first | exact HB.out | apply below_alloc | apply pw_below_drewN | apply below_drew1) | exact HB.out)⟩⟩
              · rw [if_neg c22] at H
                have c22b0 : decide (t278 < ((rd_T25 t270 x18_1).f1)) = false := decide_eq_false c22
                clear c22
                have H' := Aside0.mk H
                clear H
                have p281 : 0 ≤ (x18_1 : Int) := of_decide_eq_true (by first | (with_reducible assumption) | assumption)
                have q281 : x18_1 < (t270.length : Int) := of_decide_eq_true (by first | (with_reducible assumption) | assumption)
                obtain ⟨ad281, e281, hx281_0, hx281_1, hx281_2⟩ := at_T25 (Kd.R_reads' HO_10.out).2.2 x18_1 p281 q281
                cases e281
                replace p281 := eq_true p281
                replace q281 := eq_true q281
                have p282 : 0 ≤ (x18_1 : Int) := of_decide_eq_true (by first | (with_reducible assumption) | assumption)
                have q282 : x18_1 < (t270.length : Int) := of_decide_eq_true (by first | (with_reducible assumption) | assumption)
                obtain ⟨ad282, e282, hx282_0, hx282_1, hx282_2⟩ := at_T25 (Kd.R_reads' HO_10.out).2.2 x18_1 p282 q282
                obtain rfl : ad281 = ad282 := (by injection e282)
                replace p282 := eq_true p282
                replace q282 := eq_true q282
                go_wp2
                go_roundg k1
                case measure => have := HK1.out; omega
                case rel => exact ⟨(x17_1), (wrap64 (x18_1 + 1)), (by first | rfl | (simp; done) | (simp [*]; done)), (by first | rfl | (simp; done) | (simp [*]; done)), H', ⟨by have := HK1.out; omega⟩, ⟨by (with_reducible repeat (first | apply Kd.R_alloc | apply Kd.R_drewN | apply Kd.R_drew)); exact HO_10.out⟩, ⟨by (with_reducible repeat (first | apply Kd.R_alloc | apply Kd.R_drewN | apply Kd.R_drew)); exact HO_12.out⟩, ⟨by repeat (first | (with_reducible first | exact HB.out | apply below_alloc | apply pw_below_drewN | apply below_drew1) | exact HB.out)⟩⟩
            · rw [if_neg c21] at H
              have c21b0 : decide (((rd_T25 t270 x18_1).f0) ≤ t278) = false := decide_eq_false c21
              clear c21
              have H' := Aside0.mk H
              clear H
              have p281 : 0 ≤ (x18_1 : Int) := of_decide_eq_true (by first | (with_reducible assumption) | assumption)
              have q281 : x18_1 < (t270.length : Int) := of_decide_eq_true (by first | (with_reducible assumption) | assumption)
              obtain ⟨ad281, e281, hx281_0, hx281_1, hx281_2⟩ := at_T25 (Kd.R_reads' HO_10.out).2.2 x18_1 p281 q281
              cases e281
              replace p281 := eq_true p281
              replace q281 := eq_true q281
              go_wp2
              go_roundg k1
              case measure => have := HK1.out; omega
              case rel => exact ⟨(x17_1), (wrap64 (x18_1 + 1)), (by first | rfl | (simp; done) | (simp [*]; done)), (by first | rfl | (simp; done) | (simp [*]; done)), H', ⟨by have := HK1.out; omega⟩, ⟨by (with_reducible repeat (first | apply Kd.R_alloc | apply Kd.R_drewN | apply Kd.R_drew)); exact HO_10.out⟩, ⟨by (with_reducible repeat (first | apply Kd.R_alloc | apply Kd.R_drewN | apply Kd.R_drew)); exact HO_12.out⟩, ⟨by repeat (first | (with_reducible first | exact HB.out | apply below_alloc | apply pw_below_drewN | apply below_drew1) | exact HB.out)⟩⟩
          · rw [if_neg c20] at H
            exact absurd H (by simp)
        · rw [if_neg c19] at H
          have c19b0 : decide (x18_1 < (t270.length : Int)) = false := decide_eq_false c19
          clear c19
          by_cases c23 : t275 = 0
          · rw [if_pos c23] at H
            have c23b0 : (t275 == 0) = true := beq_iff_eq.mpr c23
            have c23b1 : (t275 != 0) = false := bne_eq_false_iff_eq.mpr c23
            clear c23
            by_cases c24 : t280 = 0
            · rw [if_pos c24] at H
              have c24b0 : (t280 == 0) = true := beq_iff_eq.mpr c24
              have c24b1 : (t280 != 0) = false := bne_eq_false_iff_eq.mpr c24
              clear c24
              by_cases c25 : t279 = x17_1
              · rw [if_pos c25] at H
                have c25b0 : (t279 == x17_1) = true := beq_iff_eq.mpr c25
                have c25b1 : (t279 != x17_1) = false := bne_eq_false_iff_eq.mpr c25
                clear c25
                replace H := Option.bind_eq_some_iff.mp H
                obtain ⟨t284, A260, H⟩ := H
                replace H : (if t284 = true then ((timeline_End.f k1 t274).bind fun t285 => (some (t285 == (wrap64 (1 + t269))))) else (some false)) = some r := H
                have A26 := Aside0.mk A260
                clear A260
                by_cases c27 : t284 = true
                · subst c27
                  have H1 : ((timeline_End.f k1 t274).bind fun t285 => (some (t285 == (wrap64 (1 + t269))))) = some r := by rw [if_pos rfl] at H; exact H
                  clear H
                  have H := H1
                  clear H1
                  replace H := Option.bind_eq_some_iff.mp H
                  obtain ⟨t285, A280, H⟩ := H
                  replace H : (some (t285 == (wrap64 (1 + t269)))) = some r := H
                  have A28 := Aside0.mk A280
                  clear A280
                  obtain rfl := Option.some.inj H
                  go_wp2_with (first | (go_at_call 16; (with_reducible refine (timeline_Valid.calls k1 _ _ t274 true _ ?side1 ?side2 A26.out).mono ?_); (case side1 => repeat (first | exact (Kd.R_reads' HO_12.out).2.2 | (with_reducible refine Kd.C_alloc ?_ _) | (with_reducible refine Kd.C_drewN ?_ _) | (with_reducible refine Kd.C_drew ?_))); (case side2 => exact (Kd.R_reads' HO_12.out).2.1); rintro e w29 ⟨rfl, hb⟩; have n0_ := Aside0.mk (Kd.R_below (by (with_reducible repeat (first | apply Kd.R_alloc | apply Kd.R_drewN | apply Kd.R_drew)); exact HO_10.out) hb); have n1_ := Aside0.mk (Kd.R_below (by (with_reducible repeat (first | apply Kd.R_alloc | apply Kd.R_drewN | apply Kd.R_drew)); exact HO_12.out) hb); have n2_ := Aside0.mk (below_step (by repeat (first | (with_reducible first | exact HB.out | apply below_alloc | apply pw_below_drewN | apply below_drew1) | exact HB.out)) hb); clear HO_10; clear HO_12; clear HB; have HO_10 := n0_; have HO_12 := n1_; have HB := n2_; clear n0_ n1_ n2_; (try clear hb); (try clear hb2); (try clear hk); (try clear hi)) | (go_at_call 18; (with_reducible refine (timeline_End.calls k1 _ _ t274 t285 _ ?side1 ?side2 A28.out).mono ?_); (case side1 => repeat (first | exact (Kd.R_reads' HO_12.out).2.2 | (with_reducible refine Kd.C_alloc ?_ _) | (with_reducible refine Kd.C_drewN ?_ _) | (with_reducible refine Kd.C_drew ?_))); (case side2 => exact (Kd.R_reads' HO_12.out).2.1); rintro e w30 ⟨rfl, hb⟩; have n0_ := Aside0.mk (Kd.R_below (by (with_reducible repeat (first | apply Kd.R_alloc | apply Kd.R_drewN | apply Kd.R_drew)); exact HO_10.out) hb); have n1_ := Aside0.mk (Kd.R_below (by (with_reducible repeat (first | apply Kd.R_alloc | apply Kd.R_drewN | apply Kd.R_drew)); exact HO_12.out) hb); have n2_ := Aside0.mk (below_step (by repeat (first | (with_reducible first | exact HB.out | apply below_alloc | apply pw_below_drewN | apply below_drew1) | exact HB.out)) hb); clear HO_10; clear HO_12; clear HB; have HO_10 := n0_; have HO_12 := n1_; have HB := n2_; clear n0_ n1_ n2_; (try clear hb); (try clear hb2); (try clear hk); (try clear hi)))
                  go_ret
                  exact ⟨by first | rfl | (simp [errW_none, errW_some] <;> rfl) | (simp [*, errW_none, errW_some] <;> rfl), by repeat (first | (with_reducible first | exact HB.out | apply below_alloc | apply pw_below_drewN | apply below_drew1) | exact HB.out)⟩
                · replace c27 := Bool.eq_false_iff.mpr c27
                  subst c27
                  have H1 : (some false) = some r := by rw [if_neg (show ¬ (false = true) by decide)] at H; exact H
                  exact absurd (Option.some.inj H1) (by rw [hr0.out]; exact Bool.false_ne_true)
              · rw [if_neg c25] at H
                have c25b0 : (t279 == x17_1) = false := beq_eq_false_iff_ne.mpr c25
                have c25b1 : (t279 != x17_1) = true := bne_iff_ne.mpr c25
                obtain rfl := Option.some.inj H
                go_wp2
                go_ret
                exact ⟨by first | rfl | (simp [errW_none, errW_some] <;> rfl) | (simp [*, errW_none, errW_some] <;> rfl), by repeat (first | (with_reducible first | exact HB.out | apply below_alloc | apply pw_below_drewN | apply below_drew1) | exact HB.out)⟩
            · rw [if_neg c24] at H
              have c24b0 : (t280 == 0) = false := beq_eq_false_iff_ne.mpr c24
              have c24b1 : (t280 != 0) = true := bne_iff_ne.mpr c24
              obtain rfl := Option.some.inj H
              go_wp2
              go_ret
              exact ⟨by first | rfl | (simp [errW_none, errW_some] <;> rfl) | (simp [*, errW_none, errW_some] <;> rfl), by repeat (first | (with_reducible first | exact HB.out | apply below_alloc | apply pw_below_drewN | apply below_drew1) | exact HB.out)⟩
          · rw [if_neg c23] at H
            have c23b0 : (t275 == 0) = false := beq_eq_false_iff_ne.mpr c23
            have c23b1 : (t275 != 0) = true := bne_iff_ne.mpr c23
            obtain rfl := Option.some.inj H
            go_wp2
            go_ret
            exact ⟨by first | rfl | (simp [errW_none, errW_some] <;> rfl) | (simp [*, errW_none, errW_some] <;> rfl), by repeat (first | (with_reducible first | exact HB.out | apply below_alloc | apply pw_below_drewN | apply below_drew1) | exact HB.out)⟩
  · replace c6 := Bool.eq_false_iff.mpr c6
    subst c6
    have H1 : (some false) = some r := by rw [if_neg (show ¬ (false = true) by decide)] at H; exact H
    exact absurd (Option.some.inj H1) (by rw [hr0.out]; exact Bool.false_ne_true)
/-- THE ONE PURE STATEMENT of airchecklaw15_TimelinePaint. -/
def airchecklaw15_TimelinePaint.Pure : Prop := ∀ (a0 : Int) (l1 : List (S29)) (a2 : Int) (a3 : Int), (Lit.int .i64 a0).wf = true → (l1.length ≤ maxLen ∧ l1.length * 24 ≤ 140737488351232 ∧ ∀ x ∈ l1, (fun x => Q29 x) x) → (Lit.int .i64 a2).wf = true → (Lit.int .i64 a3).wf = true → ∃ k, airchecklaw15_TimelinePaint.f k a0 l1 a2 a3 = some true
theorem airchecklaw15_TimelinePaint.walk : True := trivial

/-! ### airchecklaw15_TimelineJoin: function 7 -/
def airchecklaw15_TimelineJoin.j0 : Nat → List (S25) → List (S25) → List (S25) → List (S25) → List (S25) → List (S25) → List (S25) → Bool → Option (Bool)
  | 0, _, _, _, _, _, _, _, _ => none
  | k + 1, x14, x15, x19, x21, x23, x27, x31, x132 => if x132 = true then (some false) else ((aircheckref15_Same.f k x19 x14).bind fun t327 => (if t327 = true then ((aircheckref15_Same.f k x21 x15).bind fun t328 => (if t328 = true then ((aircheckref15_Same.f k x23 x14).bind fun t329 => (if t329 = true then ((aircheckref15_Same.f k x27 x31).bind fun t330 => (some t330)) else (some false))) else (some false))) else (some false)))
def airchecklaw15_TimelineJoin.f (k : Nat) (a0 : Int) (l1 : List (S29)) (l2 : List (S29)) (l3 : List (S29)) (a4 : Int) (a5 : Int) : Option (Bool) := (airchecklaw15_sane.f k).bind fun t286 => (if t286 = true then ((airchecklaw15_pick.f a0 400).bind fun t287 => ((aircheckref15_Made.f k a0 l1).bind fun t288 => ((aircheckref15_Made.f k a0 l2).bind fun t291 => ((aircheckref15_Made.f k a0 l3).bind fun t294 => ((airchecklaw15_pick.f a4 (wrap64 ((wrap64 (1 + t287)) + 1))).bind fun t297 => ((airchecklaw15_pick.f a5 (wrap64 ((wrap64 ((wrap64 (1 + t287)) + 1)) - t297))).bind fun t298 => ((timeline_Join.f t288 t288 t297).bind fun bt299 => ((timeline_Join.f t288 t291 0).bind fun bt303 => ((timeline_Join.f t288 t291 (wrap64 (1 + t287))).bind fun bt307 => ((timeline_Join.f t288 t291 t297).bind fun bt311 => ((timeline_Join.f bt311.1 t294 (wrap64 (t297 + t298))).bind fun bt315 => ((timeline_Join.f t291 t294 (wrap64 (t297 + t298))).bind fun bt319 => ((timeline_Join.f t288 bt319.1 t297).bind fun bt323 => (if bt299.2 = 0 then (if bt303.2 = 0 then (if bt307.2 = 0 then (if bt311.2 = 0 then (if bt315.2 = 0 then (if bt319.2 = 0 then (airchecklaw15_TimelineJoin.j0 k t288 t291 bt299.1 bt303.1 bt307.1 bt315.1 bt323.1 (bt323.2 != 0)) else (airchecklaw15_TimelineJoin.j0 k t288 t291 bt299.1 bt303.1 bt307.1 bt315.1 bt323.1 true)) else (airchecklaw15_TimelineJoin.j0 k t288 t291 bt299.1 bt303.1 bt307.1 bt315.1 bt323.1 true)) else (airchecklaw15_TimelineJoin.j0 k t288 t291 bt299.1 bt303.1 bt307.1 bt315.1 bt323.1 true)) else (airchecklaw15_TimelineJoin.j0 k t288 t291 bt299.1 bt303.1 bt307.1 bt315.1 bt323.1 true)) else (airchecklaw15_TimelineJoin.j0 k t288 t291 bt299.1 bt303.1 bt307.1 bt315.1 bt323.1 true)) else (airchecklaw15_TimelineJoin.j0 k t288 t291 bt299.1 bt303.1 bt307.1 bt315.1 bt323.1 true))))))))))))))) else (some false))
theorem airchecklaw15_TimelineJoin.mono_l : ∀ k, (∀ y0 y1 y2 y3 y4 y5 y6 y7, LeO (airchecklaw15_TimelineJoin.j0 k y0 y1 y2 y3 y4 y5 y6 y7) (airchecklaw15_TimelineJoin.j0 (k + 1) y0 y1 y2 y3 y4 y5 y6 y7))
  | 0 => fun _ _ _ _ _ _ _ _ r h => by simp [airchecklaw15_TimelineJoin.j0] at h
  | k + 1 => by
    have ih0 := airchecklaw15_TimelineJoin.mono_l k
    · intro y0 y1 y2 y3 y4 y5 y6 y7
      unfold airchecklaw15_TimelineJoin.j0
      repeat' first
      | (with_reducible exact ih0 _ _ _ _ _ _ _ _)
      | (with_reducible exact airchecklaw15_sane.mono _)
      | (with_reducible exact aircheckref15_Made.mono _ _ _)
      | (with_reducible exact aircheckref15_Same.mono _ _ _)
      | (with_reducible exact LeO.refl _)
      | (with_reducible exact LeO.none _)
      | (with_reducible refine LeO.ite ?_ ?_)
      | (with_reducible refine LeO.bind ?_ (fun _ => ?_))
      | exact ih0 _ _ _ _ _ _ _ _
      | exact airchecklaw15_sane.mono _
      | exact aircheckref15_Made.mono _ _ _
      | exact aircheckref15_Same.mono _ _ _
      | exact LeO.none _
      | refine LeO.ite ?_ ?_
      | refine LeO.bind ?_ (fun _ => ?_)
theorem airchecklaw15_TimelineJoin.mono : ∀ a0 a1 a2 a3 a4 a5 k, LeO (airchecklaw15_TimelineJoin.f k a0 a1 a2 a3 a4 a5) (airchecklaw15_TimelineJoin.f (k + 1) a0 a1 a2 a3 a4 a5) := by
  intro a0 a1 a2 a3 a4 a5 k
  have ih0 := airchecklaw15_TimelineJoin.mono_l k
  unfold airchecklaw15_TimelineJoin.f
  repeat' first
      | (with_reducible exact ih0 _ _ _ _ _ _ _ _)
      | (with_reducible exact airchecklaw15_sane.mono _)
      | (with_reducible exact aircheckref15_Made.mono _ _ _)
      | (with_reducible exact aircheckref15_Same.mono _ _ _)
      | (with_reducible exact LeO.refl _)
      | (with_reducible exact LeO.none _)
      | (with_reducible refine LeO.ite ?_ ?_)
      | (with_reducible refine LeO.bind ?_ (fun _ => ?_))
      | exact ih0 _ _ _ _ _ _ _ _
      | exact airchecklaw15_sane.mono _
      | exact aircheckref15_Made.mono _ _ _
      | exact aircheckref15_Same.mono _ _ _
      | exact LeO.none _
      | refine LeO.ite ?_ ?_
      | refine LeO.bind ?_ (fun _ => ?_)
set_option maxHeartbeats 8000000 in
set_option maxRecDepth 100000 in
theorem airchecklaw15_TimelineJoin.calls (k : Nat) (a0 : Int) (A1 : Option Addr) (c1 : Nat) (l1 : List (S29)) (A2 : Option Addr) (c2 : Nat) (l2 : List (S29)) (A3 : Option Addr) (c3 : Nat) (l3 : List (S29)) (a4 : Int) (a5 : Int) (r : Bool) (hr0 : Aside0 (r = true)) (w : World) (hr1 : Kd.C k29 w A1 l1.length l1) (hc1 : l1.length ≤ c1) (hr2 : Kd.C k29 w A2 l2.length l2) (hc2 : l2.length ≤ c2) (hr3 : Kd.C k29 w A3 l3.length l3) (hc3 : l3.length ≤ c3) (h : airchecklaw15_TimelineJoin.f k a0 l1 l2 l3 a4 a5 = some r) :
    Calls Try.prog 7 #[.int .i64 a0, .slice A1 l1.length c1, .slice A2 l2.length c2, .slice A3 l3.length c3, .int .i64 a4, .int .i64 a5] w fun e w' => e = .returned (.bool r) ∧ Below w.heap.size w w' := by
  have HR1 := Aside0.mk hr1
  have HC1 := Aside0.mk hc1
  clear hr1 hc1
  have HR2 := Aside0.mk hr2
  have HC2 := Aside0.mk hc2
  clear hr2 hc2
  have HR3 := Aside0.mk hr3
  have HC3 := Aside0.mk hc3
  clear hr3 hc3
  have HB := Aside0.mk (Below.refl w.heap.size w)
  have H : ((airchecklaw15_sane.f k).bind fun t286 => (if t286 = true then ((airchecklaw15_pick.f a0 400).bind fun t287 => ((aircheckref15_Made.f k a0 l1).bind fun t288 => ((aircheckref15_Made.f k a0 l2).bind fun t291 => ((aircheckref15_Made.f k a0 l3).bind fun t294 => ((airchecklaw15_pick.f a4 (wrap64 ((wrap64 (1 + t287)) + 1))).bind fun t297 => ((airchecklaw15_pick.f a5 (wrap64 ((wrap64 ((wrap64 (1 + t287)) + 1)) - t297))).bind fun t298 => ((timeline_Join.f t288 t288 t297).bind fun bt299 => ((timeline_Join.f t288 t291 0).bind fun bt303 => ((timeline_Join.f t288 t291 (wrap64 (1 + t287))).bind fun bt307 => ((timeline_Join.f t288 t291 t297).bind fun bt311 => ((timeline_Join.f bt311.1 t294 (wrap64 (t297 + t298))).bind fun bt315 => ((timeline_Join.f t291 t294 (wrap64 (t297 + t298))).bind fun bt319 => ((timeline_Join.f t288 bt319.1 t297).bind fun bt323 => (if bt299.2 = 0 then (if bt303.2 = 0 then (if bt307.2 = 0 then (if bt311.2 = 0 then (if bt315.2 = 0 then (if bt319.2 = 0 then (airchecklaw15_TimelineJoin.j0 k t288 t291 bt299.1 bt303.1 bt307.1 bt315.1 bt323.1 (bt323.2 != 0)) else (airchecklaw15_TimelineJoin.j0 k t288 t291 bt299.1 bt303.1 bt307.1 bt315.1 bt323.1 true)) else (airchecklaw15_TimelineJoin.j0 k t288 t291 bt299.1 bt303.1 bt307.1 bt315.1 bt323.1 true)) else (airchecklaw15_TimelineJoin.j0 k t288 t291 bt299.1 bt303.1 bt307.1 bt315.1 bt323.1 true)) else (airchecklaw15_TimelineJoin.j0 k t288 t291 bt299.1 bt303.1 bt307.1 bt315.1 bt323.1 true)) else (airchecklaw15_TimelineJoin.j0 k t288 t291 bt299.1 bt303.1 bt307.1 bt315.1 bt323.1 true)) else (airchecklaw15_TimelineJoin.j0 k t288 t291 bt299.1 bt303.1 bt307.1 bt315.1 bt323.1 true))))))))))))))) else (some false))) = some r := h
  clear h
  replace H := Option.bind_eq_some_iff.mp H
  obtain ⟨t286, A70, H⟩ := H
  replace H : (if t286 = true then ((airchecklaw15_pick.f a0 400).bind fun t287 => ((aircheckref15_Made.f k a0 l1).bind fun t288 => ((aircheckref15_Made.f k a0 l2).bind fun t291 => ((aircheckref15_Made.f k a0 l3).bind fun t294 => ((airchecklaw15_pick.f a4 (wrap64 ((wrap64 (1 + t287)) + 1))).bind fun t297 => ((airchecklaw15_pick.f a5 (wrap64 ((wrap64 ((wrap64 (1 + t287)) + 1)) - t297))).bind fun t298 => ((timeline_Join.f t288 t288 t297).bind fun bt299 => ((timeline_Join.f t288 t291 0).bind fun bt303 => ((timeline_Join.f t288 t291 (wrap64 (1 + t287))).bind fun bt307 => ((timeline_Join.f t288 t291 t297).bind fun bt311 => ((timeline_Join.f bt311.1 t294 (wrap64 (t297 + t298))).bind fun bt315 => ((timeline_Join.f t291 t294 (wrap64 (t297 + t298))).bind fun bt319 => ((timeline_Join.f t288 bt319.1 t297).bind fun bt323 => (if bt299.2 = 0 then (if bt303.2 = 0 then (if bt307.2 = 0 then (if bt311.2 = 0 then (if bt315.2 = 0 then (if bt319.2 = 0 then (airchecklaw15_TimelineJoin.j0 k t288 t291 bt299.1 bt303.1 bt307.1 bt315.1 bt323.1 (bt323.2 != 0)) else (airchecklaw15_TimelineJoin.j0 k t288 t291 bt299.1 bt303.1 bt307.1 bt315.1 bt323.1 true)) else (airchecklaw15_TimelineJoin.j0 k t288 t291 bt299.1 bt303.1 bt307.1 bt315.1 bt323.1 true)) else (airchecklaw15_TimelineJoin.j0 k t288 t291 bt299.1 bt303.1 bt307.1 bt315.1 bt323.1 true)) else (airchecklaw15_TimelineJoin.j0 k t288 t291 bt299.1 bt303.1 bt307.1 bt315.1 bt323.1 true)) else (airchecklaw15_TimelineJoin.j0 k t288 t291 bt299.1 bt303.1 bt307.1 bt315.1 bt323.1 true)) else (airchecklaw15_TimelineJoin.j0 k t288 t291 bt299.1 bt303.1 bt307.1 bt315.1 bt323.1 true))))))))))))))) else (some false)) = some r := H
  have A7 := Aside0.mk A70
  clear A70
  by_cases c8 : t286 = true
  · subst c8
    have H1 : ((airchecklaw15_pick.f a0 400).bind fun t287 => ((aircheckref15_Made.f k a0 l1).bind fun t288 => ((aircheckref15_Made.f k a0 l2).bind fun t291 => ((aircheckref15_Made.f k a0 l3).bind fun t294 => ((airchecklaw15_pick.f a4 (wrap64 ((wrap64 (1 + t287)) + 1))).bind fun t297 => ((airchecklaw15_pick.f a5 (wrap64 ((wrap64 ((wrap64 (1 + t287)) + 1)) - t297))).bind fun t298 => ((timeline_Join.f t288 t288 t297).bind fun bt299 => ((timeline_Join.f t288 t291 0).bind fun bt303 => ((timeline_Join.f t288 t291 (wrap64 (1 + t287))).bind fun bt307 => ((timeline_Join.f t288 t291 t297).bind fun bt311 => ((timeline_Join.f bt311.1 t294 (wrap64 (t297 + t298))).bind fun bt315 => ((timeline_Join.f t291 t294 (wrap64 (t297 + t298))).bind fun bt319 => ((timeline_Join.f t288 bt319.1 t297).bind fun bt323 => (if bt299.2 = 0 then (if bt303.2 = 0 then (if bt307.2 = 0 then (if bt311.2 = 0 then (if bt315.2 = 0 then (if bt319.2 = 0 then (airchecklaw15_TimelineJoin.j0 k t288 t291 bt299.1 bt303.1 bt307.1 bt315.1 bt323.1 (bt323.2 != 0)) else (airchecklaw15_TimelineJoin.j0 k t288 t291 bt299.1 bt303.1 bt307.1 bt315.1 bt323.1 true)) else (airchecklaw15_TimelineJoin.j0 k t288 t291 bt299.1 bt303.1 bt307.1 bt315.1 bt323.1 true)) else (airchecklaw15_TimelineJoin.j0 k t288 t291 bt299.1 bt303.1 bt307.1 bt315.1 bt323.1 true)) else (airchecklaw15_TimelineJoin.j0 k t288 t291 bt299.1 bt303.1 bt307.1 bt315.1 bt323.1 true)) else (airchecklaw15_TimelineJoin.j0 k t288 t291 bt299.1 bt303.1 bt307.1 bt315.1 bt323.1 true)) else (airchecklaw15_TimelineJoin.j0 k t288 t291 bt299.1 bt303.1 bt307.1 bt315.1 bt323.1 true))))))))))))))) = some r := by rw [if_pos rfl] at H; exact H
    clear H
    have H := H1
    clear H1
    replace H := Option.bind_eq_some_iff.mp H
    obtain ⟨t287, A90, H⟩ := H
    replace H : ((aircheckref15_Made.f k a0 l1).bind fun t288 => ((aircheckref15_Made.f k a0 l2).bind fun t291 => ((aircheckref15_Made.f k a0 l3).bind fun t294 => ((airchecklaw15_pick.f a4 (wrap64 ((wrap64 (1 + t287)) + 1))).bind fun t297 => ((airchecklaw15_pick.f a5 (wrap64 ((wrap64 ((wrap64 (1 + t287)) + 1)) - t297))).bind fun t298 => ((timeline_Join.f t288 t288 t297).bind fun bt299 => ((timeline_Join.f t288 t291 0).bind fun bt303 => ((timeline_Join.f t288 t291 (wrap64 (1 + t287))).bind fun bt307 => ((timeline_Join.f t288 t291 t297).bind fun bt311 => ((timeline_Join.f bt311.1 t294 (wrap64 (t297 + t298))).bind fun bt315 => ((timeline_Join.f t291 t294 (wrap64 (t297 + t298))).bind fun bt319 => ((timeline_Join.f t288 bt319.1 t297).bind fun bt323 => (if bt299.2 = 0 then (if bt303.2 = 0 then (if bt307.2 = 0 then (if bt311.2 = 0 then (if bt315.2 = 0 then (if bt319.2 = 0 then (airchecklaw15_TimelineJoin.j0 k t288 t291 bt299.1 bt303.1 bt307.1 bt315.1 bt323.1 (bt323.2 != 0)) else (airchecklaw15_TimelineJoin.j0 k t288 t291 bt299.1 bt303.1 bt307.1 bt315.1 bt323.1 true)) else (airchecklaw15_TimelineJoin.j0 k t288 t291 bt299.1 bt303.1 bt307.1 bt315.1 bt323.1 true)) else (airchecklaw15_TimelineJoin.j0 k t288 t291 bt299.1 bt303.1 bt307.1 bt315.1 bt323.1 true)) else (airchecklaw15_TimelineJoin.j0 k t288 t291 bt299.1 bt303.1 bt307.1 bt315.1 bt323.1 true)) else (airchecklaw15_TimelineJoin.j0 k t288 t291 bt299.1 bt303.1 bt307.1 bt315.1 bt323.1 true)) else (airchecklaw15_TimelineJoin.j0 k t288 t291 bt299.1 bt303.1 bt307.1 bt315.1 bt323.1 true)))))))))))))) = some r := H
    have A9 := Aside0.mk A90
    clear A90
    replace H := Option.bind_eq_some_iff.mp H
    obtain ⟨t288, A100, H⟩ := H
    replace H : ((aircheckref15_Made.f k a0 l2).bind fun t291 => ((aircheckref15_Made.f k a0 l3).bind fun t294 => ((airchecklaw15_pick.f a4 (wrap64 ((wrap64 (1 + t287)) + 1))).bind fun t297 => ((airchecklaw15_pick.f a5 (wrap64 ((wrap64 ((wrap64 (1 + t287)) + 1)) - t297))).bind fun t298 => ((timeline_Join.f t288 t288 t297).bind fun bt299 => ((timeline_Join.f t288 t291 0).bind fun bt303 => ((timeline_Join.f t288 t291 (wrap64 (1 + t287))).bind fun bt307 => ((timeline_Join.f t288 t291 t297).bind fun bt311 => ((timeline_Join.f bt311.1 t294 (wrap64 (t297 + t298))).bind fun bt315 => ((timeline_Join.f t291 t294 (wrap64 (t297 + t298))).bind fun bt319 => ((timeline_Join.f t288 bt319.1 t297).bind fun bt323 => (if bt299.2 = 0 then (if bt303.2 = 0 then (if bt307.2 = 0 then (if bt311.2 = 0 then (if bt315.2 = 0 then (if bt319.2 = 0 then (airchecklaw15_TimelineJoin.j0 k t288 t291 bt299.1 bt303.1 bt307.1 bt315.1 bt323.1 (bt323.2 != 0)) else (airchecklaw15_TimelineJoin.j0 k t288 t291 bt299.1 bt303.1 bt307.1 bt315.1 bt323.1 true)) else (airchecklaw15_TimelineJoin.j0 k t288 t291 bt299.1 bt303.1 bt307.1 bt315.1 bt323.1 true)) else (airchecklaw15_TimelineJoin.j0 k t288 t291 bt299.1 bt303.1 bt307.1 bt315.1 bt323.1 true)) else (airchecklaw15_TimelineJoin.j0 k t288 t291 bt299.1 bt303.1 bt307.1 bt315.1 bt323.1 true)) else (airchecklaw15_TimelineJoin.j0 k t288 t291 bt299.1 bt303.1 bt307.1 bt315.1 bt323.1 true)) else (airchecklaw15_TimelineJoin.j0 k t288 t291 bt299.1 bt303.1 bt307.1 bt315.1 bt323.1 true))))))))))))) = some r := H
    have A10 := Aside0.mk A100
    clear A100
    replace H := Option.bind_eq_some_iff.mp H
    obtain ⟨t291, A110, H⟩ := H
    replace H : ((aircheckref15_Made.f k a0 l3).bind fun t294 => ((airchecklaw15_pick.f a4 (wrap64 ((wrap64 (1 + t287)) + 1))).bind fun t297 => ((airchecklaw15_pick.f a5 (wrap64 ((wrap64 ((wrap64 (1 + t287)) + 1)) - t297))).bind fun t298 => ((timeline_Join.f t288 t288 t297).bind fun bt299 => ((timeline_Join.f t288 t291 0).bind fun bt303 => ((timeline_Join.f t288 t291 (wrap64 (1 + t287))).bind fun bt307 => ((timeline_Join.f t288 t291 t297).bind fun bt311 => ((timeline_Join.f bt311.1 t294 (wrap64 (t297 + t298))).bind fun bt315 => ((timeline_Join.f t291 t294 (wrap64 (t297 + t298))).bind fun bt319 => ((timeline_Join.f t288 bt319.1 t297).bind fun bt323 => (if bt299.2 = 0 then (if bt303.2 = 0 then (if bt307.2 = 0 then (if bt311.2 = 0 then (if bt315.2 = 0 then (if bt319.2 = 0 then (airchecklaw15_TimelineJoin.j0 k t288 t291 bt299.1 bt303.1 bt307.1 bt315.1 bt323.1 (bt323.2 != 0)) else (airchecklaw15_TimelineJoin.j0 k t288 t291 bt299.1 bt303.1 bt307.1 bt315.1 bt323.1 true)) else (airchecklaw15_TimelineJoin.j0 k t288 t291 bt299.1 bt303.1 bt307.1 bt315.1 bt323.1 true)) else (airchecklaw15_TimelineJoin.j0 k t288 t291 bt299.1 bt303.1 bt307.1 bt315.1 bt323.1 true)) else (airchecklaw15_TimelineJoin.j0 k t288 t291 bt299.1 bt303.1 bt307.1 bt315.1 bt323.1 true)) else (airchecklaw15_TimelineJoin.j0 k t288 t291 bt299.1 bt303.1 bt307.1 bt315.1 bt323.1 true)) else (airchecklaw15_TimelineJoin.j0 k t288 t291 bt299.1 bt303.1 bt307.1 bt315.1 bt323.1 true)))))))))))) = some r := H
    have A11 := Aside0.mk A110
    clear A110
    replace H := Option.bind_eq_some_iff.mp H
    obtain ⟨t294, A120, H⟩ := H
    replace H : ((airchecklaw15_pick.f a4 (wrap64 ((wrap64 (1 + t287)) + 1))).bind fun t297 => ((airchecklaw15_pick.f a5 (wrap64 ((wrap64 ((wrap64 (1 + t287)) + 1)) - t297))).bind fun t298 => ((timeline_Join.f t288 t288 t297).bind fun bt299 => ((timeline_Join.f t288 t291 0).bind fun bt303 => ((timeline_Join.f t288 t291 (wrap64 (1 + t287))).bind fun bt307 => ((timeline_Join.f t288 t291 t297).bind fun bt311 => ((timeline_Join.f bt311.1 t294 (wrap64 (t297 + t298))).bind fun bt315 => ((timeline_Join.f t291 t294 (wrap64 (t297 + t298))).bind fun bt319 => ((timeline_Join.f t288 bt319.1 t297).bind fun bt323 => (if bt299.2 = 0 then (if bt303.2 = 0 then (if bt307.2 = 0 then (if bt311.2 = 0 then (if bt315.2 = 0 then (if bt319.2 = 0 then (airchecklaw15_TimelineJoin.j0 k t288 t291 bt299.1 bt303.1 bt307.1 bt315.1 bt323.1 (bt323.2 != 0)) else (airchecklaw15_TimelineJoin.j0 k t288 t291 bt299.1 bt303.1 bt307.1 bt315.1 bt323.1 true)) else (airchecklaw15_TimelineJoin.j0 k t288 t291 bt299.1 bt303.1 bt307.1 bt315.1 bt323.1 true)) else (airchecklaw15_TimelineJoin.j0 k t288 t291 bt299.1 bt303.1 bt307.1 bt315.1 bt323.1 true)) else (airchecklaw15_TimelineJoin.j0 k t288 t291 bt299.1 bt303.1 bt307.1 bt315.1 bt323.1 true)) else (airchecklaw15_TimelineJoin.j0 k t288 t291 bt299.1 bt303.1 bt307.1 bt315.1 bt323.1 true)) else (airchecklaw15_TimelineJoin.j0 k t288 t291 bt299.1 bt303.1 bt307.1 bt315.1 bt323.1 true))))))))))) = some r := H
    have A12 := Aside0.mk A120
    clear A120
    replace H := Option.bind_eq_some_iff.mp H
    obtain ⟨t297, A130, H⟩ := H
    replace H : ((airchecklaw15_pick.f a5 (wrap64 ((wrap64 ((wrap64 (1 + t287)) + 1)) - t297))).bind fun t298 => ((timeline_Join.f t288 t288 t297).bind fun bt299 => ((timeline_Join.f t288 t291 0).bind fun bt303 => ((timeline_Join.f t288 t291 (wrap64 (1 + t287))).bind fun bt307 => ((timeline_Join.f t288 t291 t297).bind fun bt311 => ((timeline_Join.f bt311.1 t294 (wrap64 (t297 + t298))).bind fun bt315 => ((timeline_Join.f t291 t294 (wrap64 (t297 + t298))).bind fun bt319 => ((timeline_Join.f t288 bt319.1 t297).bind fun bt323 => (if bt299.2 = 0 then (if bt303.2 = 0 then (if bt307.2 = 0 then (if bt311.2 = 0 then (if bt315.2 = 0 then (if bt319.2 = 0 then (airchecklaw15_TimelineJoin.j0 k t288 t291 bt299.1 bt303.1 bt307.1 bt315.1 bt323.1 (bt323.2 != 0)) else (airchecklaw15_TimelineJoin.j0 k t288 t291 bt299.1 bt303.1 bt307.1 bt315.1 bt323.1 true)) else (airchecklaw15_TimelineJoin.j0 k t288 t291 bt299.1 bt303.1 bt307.1 bt315.1 bt323.1 true)) else (airchecklaw15_TimelineJoin.j0 k t288 t291 bt299.1 bt303.1 bt307.1 bt315.1 bt323.1 true)) else (airchecklaw15_TimelineJoin.j0 k t288 t291 bt299.1 bt303.1 bt307.1 bt315.1 bt323.1 true)) else (airchecklaw15_TimelineJoin.j0 k t288 t291 bt299.1 bt303.1 bt307.1 bt315.1 bt323.1 true)) else (airchecklaw15_TimelineJoin.j0 k t288 t291 bt299.1 bt303.1 bt307.1 bt315.1 bt323.1 true)))))))))) = some r := H
    have A13 := Aside0.mk A130
    clear A130
    replace H := Option.bind_eq_some_iff.mp H
    obtain ⟨t298, A140, H⟩ := H
    replace H : ((timeline_Join.f t288 t288 t297).bind fun bt299 => ((timeline_Join.f t288 t291 0).bind fun bt303 => ((timeline_Join.f t288 t291 (wrap64 (1 + t287))).bind fun bt307 => ((timeline_Join.f t288 t291 t297).bind fun bt311 => ((timeline_Join.f bt311.1 t294 (wrap64 (t297 + t298))).bind fun bt315 => ((timeline_Join.f t291 t294 (wrap64 (t297 + t298))).bind fun bt319 => ((timeline_Join.f t288 bt319.1 t297).bind fun bt323 => (if bt299.2 = 0 then (if bt303.2 = 0 then (if bt307.2 = 0 then (if bt311.2 = 0 then (if bt315.2 = 0 then (if bt319.2 = 0 then (airchecklaw15_TimelineJoin.j0 k t288 t291 bt299.1 bt303.1 bt307.1 bt315.1 bt323.1 (bt323.2 != 0)) else (airchecklaw15_TimelineJoin.j0 k t288 t291 bt299.1 bt303.1 bt307.1 bt315.1 bt323.1 true)) else (airchecklaw15_TimelineJoin.j0 k t288 t291 bt299.1 bt303.1 bt307.1 bt315.1 bt323.1 true)) else (airchecklaw15_TimelineJoin.j0 k t288 t291 bt299.1 bt303.1 bt307.1 bt315.1 bt323.1 true)) else (airchecklaw15_TimelineJoin.j0 k t288 t291 bt299.1 bt303.1 bt307.1 bt315.1 bt323.1 true)) else (airchecklaw15_TimelineJoin.j0 k t288 t291 bt299.1 bt303.1 bt307.1 bt315.1 bt323.1 true)) else (airchecklaw15_TimelineJoin.j0 k t288 t291 bt299.1 bt303.1 bt307.1 bt315.1 bt323.1 true))))))))) = some r := H
    have A14 := Aside0.mk A140
    clear A140
    replace H := Option.bind_eq_some_iff.mp H
    obtain ⟨⟨t299, t300⟩, A150, H⟩ := H
    replace H : ((timeline_Join.f t288 t291 0).bind fun bt303 => ((timeline_Join.f t288 t291 (wrap64 (1 + t287))).bind fun bt307 => ((timeline_Join.f t288 t291 t297).bind fun bt311 => ((timeline_Join.f bt311.1 t294 (wrap64 (t297 + t298))).bind fun bt315 => ((timeline_Join.f t291 t294 (wrap64 (t297 + t298))).bind fun bt319 => ((timeline_Join.f t288 bt319.1 t297).bind fun bt323 => (if t300 = 0 then (if bt303.2 = 0 then (if bt307.2 = 0 then (if bt311.2 = 0 then (if bt315.2 = 0 then (if bt319.2 = 0 then (airchecklaw15_TimelineJoin.j0 k t288 t291 t299 bt303.1 bt307.1 bt315.1 bt323.1 (bt323.2 != 0)) else (airchecklaw15_TimelineJoin.j0 k t288 t291 t299 bt303.1 bt307.1 bt315.1 bt323.1 true)) else (airchecklaw15_TimelineJoin.j0 k t288 t291 t299 bt303.1 bt307.1 bt315.1 bt323.1 true)) else (airchecklaw15_TimelineJoin.j0 k t288 t291 t299 bt303.1 bt307.1 bt315.1 bt323.1 true)) else (airchecklaw15_TimelineJoin.j0 k t288 t291 t299 bt303.1 bt307.1 bt315.1 bt323.1 true)) else (airchecklaw15_TimelineJoin.j0 k t288 t291 t299 bt303.1 bt307.1 bt315.1 bt323.1 true)) else (airchecklaw15_TimelineJoin.j0 k t288 t291 t299 bt303.1 bt307.1 bt315.1 bt323.1 true)))))))) = some r := H
    have A15 := Aside0.mk A150
    clear A150
    replace H := Option.bind_eq_some_iff.mp H
    obtain ⟨⟨t303, t304⟩, A160, H⟩ := H
    replace H : ((timeline_Join.f t288 t291 (wrap64 (1 + t287))).bind fun bt307 => ((timeline_Join.f t288 t291 t297).bind fun bt311 => ((timeline_Join.f bt311.1 t294 (wrap64 (t297 + t298))).bind fun bt315 => ((timeline_Join.f t291 t294 (wrap64 (t297 + t298))).bind fun bt319 => ((timeline_Join.f t288 bt319.1 t297).bind fun bt323 => (if t300 = 0 then (if t304 = 0 then (if bt307.2 = 0 then (if bt311.2 = 0 then (if bt315.2 = 0 then (if bt319.2 = 0 then (airchecklaw15_TimelineJoin.j0 k t288 t291 t299 t303 bt307.1 bt315.1 bt323.1 (bt323.2 != 0)) else (airchecklaw15_TimelineJoin.j0 k t288 t291 t299 t303 bt307.1 bt315.1 bt323.1 true)) else (airchecklaw15_TimelineJoin.j0 k t288 t291 t299 t303 bt307.1 bt315.1 bt323.1 true)) else (airchecklaw15_TimelineJoin.j0 k t288 t291 t299 t303 bt307.1 bt315.1 bt323.1 true)) else (airchecklaw15_TimelineJoin.j0 k t288 t291 t299 t303 bt307.1 bt315.1 bt323.1 true)) else (airchecklaw15_TimelineJoin.j0 k t288 t291 t299 t303 bt307.1 bt315.1 bt323.1 true)) else (airchecklaw15_TimelineJoin.j0 k t288 t291 t299 t303 bt307.1 bt315.1 bt323.1 true))))))) = some r := H
    have A16 := Aside0.mk A160
    clear A160
    replace H := Option.bind_eq_some_iff.mp H
    obtain ⟨⟨t307, t308⟩, A170, H⟩ := H
    replace H : ((timeline_Join.f t288 t291 t297).bind fun bt311 => ((timeline_Join.f bt311.1 t294 (wrap64 (t297 + t298))).bind fun bt315 => ((timeline_Join.f t291 t294 (wrap64 (t297 + t298))).bind fun bt319 => ((timeline_Join.f t288 bt319.1 t297).bind fun bt323 => (if t300 = 0 then (if t304 = 0 then (if t308 = 0 then (if bt311.2 = 0 then (if bt315.2 = 0 then (if bt319.2 = 0 then (airchecklaw15_TimelineJoin.j0 k t288 t291 t299 t303 t307 bt315.1 bt323.1 (bt323.2 != 0)) else (airchecklaw15_TimelineJoin.j0 k t288 t291 t299 t303 t307 bt315.1 bt323.1 true)) else (airchecklaw15_TimelineJoin.j0 k t288 t291 t299 t303 t307 bt315.1 bt323.1 true)) else (airchecklaw15_TimelineJoin.j0 k t288 t291 t299 t303 t307 bt315.1 bt323.1 true)) else (airchecklaw15_TimelineJoin.j0 k t288 t291 t299 t303 t307 bt315.1 bt323.1 true)) else (airchecklaw15_TimelineJoin.j0 k t288 t291 t299 t303 t307 bt315.1 bt323.1 true)) else (airchecklaw15_TimelineJoin.j0 k t288 t291 t299 t303 t307 bt315.1 bt323.1 true)))))) = some r := H
    have A17 := Aside0.mk A170
    clear A170
    replace H := Option.bind_eq_some_iff.mp H
    obtain ⟨⟨t311, t312⟩, A180, H⟩ := H
    replace H : ((timeline_Join.f t311 t294 (wrap64 (t297 + t298))).bind fun bt315 => ((timeline_Join.f t291 t294 (wrap64 (t297 + t298))).bind fun bt319 => ((timeline_Join.f t288 bt319.1 t297).bind fun bt323 => (if t300 = 0 then (if t304 = 0 then (if t308 = 0 then (if t312 = 0 then (if bt315.2 = 0 then (if bt319.2 = 0 then (airchecklaw15_TimelineJoin.j0 k t288 t291 t299 t303 t307 bt315.1 bt323.1 (bt323.2 != 0)) else (airchecklaw15_TimelineJoin.j0 k t288 t291 t299 t303 t307 bt315.1 bt323.1 true)) else (airchecklaw15_TimelineJoin.j0 k t288 t291 t299 t303 t307 bt315.1 bt323.1 true)) else (airchecklaw15_TimelineJoin.j0 k t288 t291 t299 t303 t307 bt315.1 bt323.1 true)) else (airchecklaw15_TimelineJoin.j0 k t288 t291 t299 t303 t307 bt315.1 bt323.1 true)) else (airchecklaw15_TimelineJoin.j0 k t288 t291 t299 t303 t307 bt315.1 bt323.1 true)) else (airchecklaw15_TimelineJoin.j0 k t288 t291 t299 t303 t307 bt315.1 bt323.1 true))))) = some r := H
    have A18 := Aside0.mk A180
    clear A180
    replace H := Option.bind_eq_some_iff.mp H
    obtain ⟨⟨t315, t316⟩, A190, H⟩ := H
    replace H : ((timeline_Join.f t291 t294 (wrap64 (t297 + t298))).bind fun bt319 => ((timeline_Join.f t288 bt319.1 t297).bind fun bt323 => (if t300 = 0 then (if t304 = 0 then (if t308 = 0 then (if t312 = 0 then (if t316 = 0 then (if bt319.2 = 0 then (airchecklaw15_TimelineJoin.j0 k t288 t291 t299 t303 t307 t315 bt323.1 (bt323.2 != 0)) else (airchecklaw15_TimelineJoin.j0 k t288 t291 t299 t303 t307 t315 bt323.1 true)) else (airchecklaw15_TimelineJoin.j0 k t288 t291 t299 t303 t307 t315 bt323.1 true)) else (airchecklaw15_TimelineJoin.j0 k t288 t291 t299 t303 t307 t315 bt323.1 true)) else (airchecklaw15_TimelineJoin.j0 k t288 t291 t299 t303 t307 t315 bt323.1 true)) else (airchecklaw15_TimelineJoin.j0 k t288 t291 t299 t303 t307 t315 bt323.1 true)) else (airchecklaw15_TimelineJoin.j0 k t288 t291 t299 t303 t307 t315 bt323.1 true)))) = some r := H
    have A19 := Aside0.mk A190
    clear A190
    replace H := Option.bind_eq_some_iff.mp H
    obtain ⟨⟨t319, t320⟩, A200, H⟩ := H
    replace H : ((timeline_Join.f t288 t319 t297).bind fun bt323 => (if t300 = 0 then (if t304 = 0 then (if t308 = 0 then (if t312 = 0 then (if t316 = 0 then (if t320 = 0 then (airchecklaw15_TimelineJoin.j0 k t288 t291 t299 t303 t307 t315 bt323.1 (bt323.2 != 0)) else (airchecklaw15_TimelineJoin.j0 k t288 t291 t299 t303 t307 t315 bt323.1 true)) else (airchecklaw15_TimelineJoin.j0 k t288 t291 t299 t303 t307 t315 bt323.1 true)) else (airchecklaw15_TimelineJoin.j0 k t288 t291 t299 t303 t307 t315 bt323.1 true)) else (airchecklaw15_TimelineJoin.j0 k t288 t291 t299 t303 t307 t315 bt323.1 true)) else (airchecklaw15_TimelineJoin.j0 k t288 t291 t299 t303 t307 t315 bt323.1 true)) else (airchecklaw15_TimelineJoin.j0 k t288 t291 t299 t303 t307 t315 bt323.1 true))) = some r := H
    have A20 := Aside0.mk A200
    clear A200
    replace H := Option.bind_eq_some_iff.mp H
    obtain ⟨⟨t323, t324⟩, A210, H⟩ := H
    replace H : (if t300 = 0 then (if t304 = 0 then (if t308 = 0 then (if t312 = 0 then (if t316 = 0 then (if t320 = 0 then (airchecklaw15_TimelineJoin.j0 k t288 t291 t299 t303 t307 t315 t323 (t324 != 0)) else (airchecklaw15_TimelineJoin.j0 k t288 t291 t299 t303 t307 t315 t323 true)) else (airchecklaw15_TimelineJoin.j0 k t288 t291 t299 t303 t307 t315 t323 true)) else (airchecklaw15_TimelineJoin.j0 k t288 t291 t299 t303 t307 t315 t323 true)) else (airchecklaw15_TimelineJoin.j0 k t288 t291 t299 t303 t307 t315 t323 true)) else (airchecklaw15_TimelineJoin.j0 k t288 t291 t299 t303 t307 t315 t323 true)) else (airchecklaw15_TimelineJoin.j0 k t288 t291 t299 t303 t307 t315 t323 true)) = some r := H
    have A21 := Aside0.mk A210
    clear A210
    have HC22 := Aside0.mk H
    clear H
    go_enter Try.func7, Try.ntmps7
    go_upto_region 16 with (first | ((with_reducible refine gate_callee (f := 10) rfl ?_); refine goesL_ (some 33) rfl rfl Try.func10 (by kernel_rfl) rfl #[] rfl (by (try simp only [List.map_toArray, List.map_cons, List.map_nil]); first | done | rfl | (simp only [List.length_drop, List.length_take]; rfl)) ?_; (with_reducible refine (airchecklaw15_sane.calls k  true _ A7.out).mono ?_); rintro e w23 ⟨rfl, hb⟩; refine ⟨_, rfl, ?_⟩; have n0_ := Aside0.mk (below_step (by repeat (first | (with_reducible first | exact HB.out | apply below_alloc | apply pw_below_drewN | apply below_drew1) | exact HB.out)) hb); clear HB; have HB := n0_; clear n0_; (try clear hb); (try clear hb2); (try clear hk); (try clear hi)) | ((with_reducible refine gate_callee (f := 13) rfl ?_); refine goesL_ (some 36) rfl rfl Try.func13 (by kernel_rfl) rfl #[.int .i64 a0, .int .i64 400] rfl (by (try simp only [List.map_toArray, List.map_cons, List.map_nil]); first | done | rfl | (simp only [List.length_drop, List.length_take]; rfl)) ?_; (with_reducible refine (airchecklaw15_pick.calls a0 400 t287 _ A9.out).mono ?_); rintro e w' ⟨rfl, ⟨nd, rfl⟩⟩; refine ⟨_, rfl, ?_⟩) | ((with_reducible refine gate_callee (f := 11) rfl ?_); refine goesL_ (some 40) rfl rfl Try.func11 (by kernel_rfl) rfl #[.int .i64 a0, .slice A1 l1.length c1] rfl (by (try simp only [List.map_toArray, List.map_cons, List.map_nil]); first | done | rfl | (simp only [List.length_drop, List.length_take]; rfl)) ?_; (with_reducible refine (aircheckref15_Made.calls k a0 _ _ l1 t288 _ ?side1 ?side2 A10.out).mono ?_); (case side1 => repeat (first | exact (Kd.C_below HR1.out (by repeat (first | (with_reducible first | exact HB.out | apply below_alloc | apply pw_below_drewN | apply below_drew1) | exact HB.out))) | (with_reducible refine Kd.C_alloc ?_ _) | (with_reducible refine Kd.C_drewN ?_ _) | (with_reducible refine Kd.C_drew ?_))); (case side2 => exact HC1.out); rintro e w24 ⟨v289, rfl, ho0, hb⟩; refine ⟨_, rfl, ?_⟩; have n0_ := Aside0.mk (Kd.R_lower ho0 (below_size (by repeat (first | (with_reducible first | exact HB.out | apply below_alloc | apply pw_below_drewN | apply below_drew1) | exact HB.out)))); have n1_ := Aside0.mk (below_step (by repeat (first | (with_reducible first | exact HB.out | apply below_alloc | apply pw_below_drewN | apply below_drew1) | exact HB.out)) hb); clear HB; have HO290 := n0_; have HB := n1_; clear n0_ n1_; (try clear hb); (try clear hb2); (try clear hk); (try clear hi); (try clear ho0)) | ((with_reducible refine gate_callee (f := 11) rfl ?_); refine goesL_ (some 43) rfl rfl Try.func11 (by kernel_rfl) rfl #[.int .i64 a0, .slice A2 l2.length c2] rfl (by (try simp only [List.map_toArray, List.map_cons, List.map_nil]); first | done | rfl | (simp only [List.length_drop, List.length_take]; rfl)) ?_; (with_reducible refine (aircheckref15_Made.calls k a0 _ _ l2 t291 _ ?side1 ?side2 A11.out).mono ?_); (case side1 => repeat (first | exact (Kd.C_below HR2.out HB.out) | (with_reducible refine Kd.C_alloc ?_ _) | (with_reducible refine Kd.C_drewN ?_ _) | (with_reducible refine Kd.C_drew ?_))); (case side2 => exact HC2.out); rintro e w25 ⟨v292, rfl, ho0, hb⟩; refine ⟨_, rfl, ?_⟩; have n0_ := Aside0.mk (Kd.R_elder' (by (with_reducible repeat (first | apply Kd.R_alloc | apply Kd.R_drewN | apply Kd.R_drew)); exact HO290.out) (Kd.R_base ho0) hb); have n1_ := Aside0.mk (Kd.R_lower (Kd.R_new' ho0 (Kd.R_lt (by (with_reducible repeat (first | apply Kd.R_alloc | apply Kd.R_drewN | apply Kd.R_drew)); exact HO290.out))) (below_size (by repeat (first | (with_reducible first | exact HB.out | apply below_alloc | apply pw_below_drewN | apply below_drew1) | exact HB.out)))); have n2_ := Aside0.mk (below_step (by repeat (first | (with_reducible first | exact HB.out | apply below_alloc | apply pw_below_drewN | apply below_drew1) | exact HB.out)) hb); clear HO290; clear HB; have HO290 := n0_; have HO293 := n1_; have HB := n2_; clear n0_ n1_ n2_; (try clear hb); (try clear hb2); (try clear hk); (try clear hi); (try clear ho0)) | ((with_reducible refine gate_callee (f := 11) rfl ?_); refine goesL_ (some 46) rfl rfl Try.func11 (by kernel_rfl) rfl #[.int .i64 a0, .slice A3 l3.length c3] rfl (by (try simp only [List.map_toArray, List.map_cons, List.map_nil]); first | done | rfl | (simp only [List.length_drop, List.length_take]; rfl)) ?_; (with_reducible refine (aircheckref15_Made.calls k a0 _ _ l3 t294 _ ?side1 ?side2 A12.out).mono ?_); (case side1 => repeat (first | exact (Kd.C_below HR3.out HB.out) | (with_reducible refine Kd.C_alloc ?_ _) | (with_reducible refine Kd.C_drewN ?_ _) | (with_reducible refine Kd.C_drew ?_))); (case side2 => exact HC3.out); rintro e w26 ⟨v295, rfl, ho0, hb⟩; refine ⟨_, rfl, ?_⟩; have n0_ := Aside0.mk (Kd.R_elder' (by (with_reducible repeat (first | apply Kd.R_alloc | apply Kd.R_drewN | apply Kd.R_drew)); exact HO290.out) (Kd.R_base ho0) hb); have n1_ := Aside0.mk (Kd.R_elder' (by (with_reducible repeat (first | apply Kd.R_alloc | apply Kd.R_drewN | apply Kd.R_drew)); exact HO293.out) (Kd.R_base ho0) hb); have n2_ := Aside0.mk (Kd.R_lower (Kd.R_new' (Kd.R_new' ho0 (Kd.R_lt (by (with_reducible repeat (first | apply Kd.R_alloc | apply Kd.R_drewN | apply Kd.R_drew)); exact HO290.out))) (Kd.R_lt (by (with_reducible repeat (first | apply Kd.R_alloc | apply Kd.R_drewN | apply Kd.R_drew)); exact HO293.out))) (below_size (by repeat (first | (with_reducible first | exact HB.out | apply below_alloc | apply pw_below_drewN | apply below_drew1) | exact HB.out)))); have n3_ := Aside0.mk (below_step (by repeat (first | (with_reducible first | exact HB.out | apply below_alloc | apply pw_below_drewN | apply below_drew1) | exact HB.out)) hb); clear HO290; clear HO293; clear HB; have HO290 := n0_; have HO293 := n1_; have HO296 := n2_; have HB := n3_; clear n0_ n1_ n2_ n3_; (try clear hb); (try clear hb2); (try clear hk); (try clear hi); (try clear ho0)) | ((with_reducible refine gate_callee (f := 13) rfl ?_); refine goesL_ (some 50) rfl rfl Try.func13 (by kernel_rfl) rfl #[.int .i64 a4, .int .i64 (wrap64 ((wrap64 (1 + t287)) + 1))] rfl (by (try simp only [List.map_toArray, List.map_cons, List.map_nil]); first | done | rfl | (simp only [List.length_drop, List.length_take]; rfl)) ?_; (with_reducible refine (airchecklaw15_pick.calls a4 (wrap64 ((wrap64 (1 + t287)) + 1)) t297 _ A13.out).mono ?_); rintro e w' ⟨rfl, ⟨nd, rfl⟩⟩; refine ⟨_, rfl, ?_⟩) | ((with_reducible refine gate_callee (f := 13) rfl ?_); refine goesL_ (some 57) rfl rfl Try.func13 (by kernel_rfl) rfl #[.int .i64 a5, .int .i64 (wrap64 ((wrap64 ((wrap64 (1 + t287)) + 1)) - t297))] rfl (by (try simp only [List.map_toArray, List.map_cons, List.map_nil]); first | done | rfl | (simp only [List.length_drop, List.length_take]; rfl)) ?_; (with_reducible refine (airchecklaw15_pick.calls a5 (wrap64 ((wrap64 ((wrap64 (1 + t287)) + 1)) - t297)) t298 _ A14.out).mono ?_); rintro e w' ⟨rfl, ⟨nd, rfl⟩⟩; refine ⟨_, rfl, ?_⟩; obtain ⟨Ao27, co27, eo27⟩ := Kd.R_slice HO290.out; subst eo27) | ((with_reducible refine gate_callee (f := 22) rfl ?_); refine goesL_ (some 63) rfl rfl Try.func22 (by kernel_rfl) rfl #[.slice Ao27 t288.length co27, .slice Ao27 t288.length co27, .int .i64 t297] rfl (by (try simp only [List.map_toArray, List.map_cons, List.map_nil]); first | done | rfl | (simp only [List.length_drop, List.length_take]; rfl)) ?_; (with_reducible refine (timeline_Join.calls _ _ t288 _ _ t288 t297 t299 t300 _ ?side1 ?side2 ?side3 ?side4 A15.out).mono ?_); (case side1 => repeat (first | exact (Kd.R_reads' HO290.out).2.2 | (with_reducible refine Kd.C_alloc ?_ _) | (with_reducible refine Kd.C_drewN ?_ _) | (with_reducible refine Kd.C_drew ?_))); (case side2 => exact (Kd.R_reads' HO290.out).2.1); (case side3 => repeat (first | exact (Kd.R_reads' HO290.out).2.2 | (with_reducible refine Kd.C_alloc ?_ _) | (with_reducible refine Kd.C_drewN ?_ _) | (with_reducible refine Kd.C_drew ?_))); (case side4 => exact (Kd.R_reads' HO290.out).2.1); rintro e w28 ⟨v301, rfl, ho0, hb⟩; refine ⟨_, rfl, ?_⟩; have n0_ := Aside0.mk (Kd.R_elder' (by (with_reducible repeat (first | apply Kd.R_alloc | apply Kd.R_drewN | apply Kd.R_drew)); exact HO290.out) (Kd.R_base ho0) hb); have n1_ := Aside0.mk (Kd.R_elder' (by (with_reducible repeat (first | apply Kd.R_alloc | apply Kd.R_drewN | apply Kd.R_drew)); exact HO293.out) (Kd.R_base ho0) hb); have n2_ := Aside0.mk (Kd.R_elder' (by (with_reducible repeat (first | apply Kd.R_alloc | apply Kd.R_drewN | apply Kd.R_drew)); exact HO296.out) (Kd.R_base ho0) hb); have n3_ := Aside0.mk (Kd.R_lower (Kd.R_new' (Kd.R_new' (Kd.R_new' ho0 (Kd.R_lt (by (with_reducible repeat (first | apply Kd.R_alloc | apply Kd.R_drewN | apply Kd.R_drew)); exact HO290.out))) (Kd.R_lt (by (with_reducible repeat (first | apply Kd.R_alloc | apply Kd.R_drewN | apply Kd.R_drew)); exact HO293.out))) (Kd.R_lt (by (with_reducible repeat (first | apply Kd.R_alloc | apply Kd.R_drewN | apply Kd.R_drew)); exact HO296.out))) (below_size (by repeat (first | (with_reducible first | exact HB.out | apply below_alloc | apply pw_below_drewN | apply below_drew1) | exact HB.out)))); have n4_ := Aside0.mk (below_step (by repeat (first | (with_reducible first | exact HB.out | apply below_alloc | apply pw_below_drewN | apply below_drew1) | exact HB.out)) hb); clear HO290; clear HO293; clear HO296; clear HB; have HO290 := n0_; have HO293 := n1_; have HO296 := n2_; have HO302 := n3_; have HB := n4_; clear n0_ n1_ n2_ n3_ n4_; (try clear hb); (try clear hb2); (try clear hk); (try clear hi); (try clear ho0); obtain ⟨Ao29, co29, eo29⟩ := Kd.R_slice HO293.out; subst eo29) | ((with_reducible refine gate_callee (f := 22) rfl ?_); refine goesL_ (some 69) rfl rfl Try.func22 (by kernel_rfl) rfl #[.slice Ao27 t288.length co27, .slice Ao29 t291.length co29, .int .i64 0] rfl (by (try simp only [List.map_toArray, List.map_cons, List.map_nil]); first | done | rfl | (simp only [List.length_drop, List.length_take]; rfl)) ?_; (with_reducible refine (timeline_Join.calls _ _ t288 _ _ t291 0 t303 t304 _ ?side1 ?side2 ?side3 ?side4 A16.out).mono ?_); (case side1 => repeat (first | exact (Kd.R_reads' HO290.out).2.2 | (with_reducible refine Kd.C_alloc ?_ _) | (with_reducible refine Kd.C_drewN ?_ _) | (with_reducible refine Kd.C_drew ?_))); (case side2 => exact (Kd.R_reads' HO290.out).2.1); (case side3 => repeat (first | exact (Kd.R_reads' HO293.out).2.2 | (with_reducible refine Kd.C_alloc ?_ _) | (with_reducible refine Kd.C_drewN ?_ _) | (with_reducible refine Kd.C_drew ?_))); (case side4 => exact (Kd.R_reads' HO293.out).2.1); rintro e w30 ⟨v305, rfl, ho0, hb⟩; refine ⟨_, rfl, ?_⟩; have n0_ := Aside0.mk (Kd.R_elder' (by (with_reducible repeat (first | apply Kd.R_alloc | apply Kd.R_drewN | apply Kd.R_drew)); exact HO290.out) (Kd.R_base ho0) hb); have n1_ := Aside0.mk (Kd.R_elder' (by (with_reducible repeat (first | apply Kd.R_alloc | apply Kd.R_drewN | apply Kd.R_drew)); exact HO293.out) (Kd.R_base ho0) hb); have n2_ := Aside0.mk (Kd.R_elder' (by (with_reducible repeat (first | apply Kd.R_alloc | apply Kd.R_drewN | apply Kd.R_drew)); exact HO296.out) (Kd.R_base ho0) hb); have n3_ := Aside0.mk (Kd.R_elder' (by (with_reducible repeat (first | apply Kd.R_alloc | apply Kd.R_drewN | apply Kd.R_drew)); exact HO302.out) (Kd.R_base ho0) hb); have n4_ := Aside0.mk (Kd.R_lower (Kd.R_new' (Kd.R_new' (Kd.R_new' (Kd.R_new' ho0 (Kd.R_lt (by (with_reducible repeat (first | apply Kd.R_alloc | apply Kd.R_drewN | apply Kd.R_drew)); exact HO290.out))) (Kd.R_lt (by (with_reducible repeat (first | apply Kd.R_alloc | apply Kd.R_drewN | apply Kd.R_drew)); exact HO293.out))) (Kd.R_lt (by (with_reducible repeat (first | apply Kd.R_alloc | apply Kd.R_drewN | apply Kd.R_drew)); exact HO296.out))) (Kd.R_lt (by (with_reducible repeat (first | apply Kd.R_alloc | apply Kd.R_drewN | apply Kd.R_drew)); exact HO302.out))) (below_size (by repeat (first | (with_reducible first | exact HB.out | apply below_alloc | apply pw_below_drewN | apply below_drew1) | exact HB.out)))); have n5_ := Aside0.mk (below_step (by repeat (first | (with_reducible first | exact HB.out | apply below_alloc | apply pw_below_drewN | apply below_drew1) | exact HB.out)) hb); clear HO290; clear HO293; clear HO296; clear HO302; clear HB; have HO290 := n0_; have HO293 := n1_; have HO296 := n2_; have HO302 := n3_; have HO306 := n4_; have HB := n5_; clear n0_ n1_ n2_ n3_ n4_ n5_; (try clear hb); (try clear hb2); (try clear hk); (try clear hi); (try clear ho0)) | ((with_reducible refine gate_callee (f := 22) rfl ?_); refine goesL_ (some 76) rfl rfl Try.func22 (by kernel_rfl) rfl #[.slice Ao27 t288.length co27, .slice Ao29 t291.length co29, .int .i64 (wrap64 (1 + t287))] rfl (by (try simp only [List.map_toArray, List.map_cons, List.map_nil]); first | done | rfl | (simp only [List.length_drop, List.length_take]; rfl)) ?_; (with_reducible refine (timeline_Join.calls _ _ t288 _ _ t291 (wrap64 (1 + t287)) t307 t308 _ ?side1 ?side2 ?side3 ?side4 A17.out).mono ?_); (case side1 => repeat (first | exact (Kd.R_reads' HO290.out).2.2 | (with_reducible refine Kd.C_alloc ?_ _) | (with_reducible refine Kd.C_drewN ?_ _) | (with_reducible refine Kd.C_drew ?_))); (case side2 => exact (Kd.R_reads' HO290.out).2.1); (case side3 => repeat (first | exact (Kd.R_reads' HO293.out).2.2 | (with_reducible refine Kd.C_alloc ?_ _) | (with_reducible refine Kd.C_drewN ?_ _) | (with_reducible refine Kd.C_drew ?_))); (case side4 => exact (Kd.R_reads' HO293.out).2.1); rintro e w31 ⟨v309, rfl, ho0, hb⟩; refine ⟨_, rfl, ?_⟩; have n0_ := Aside0.mk (Kd.R_elder' (by (with_reducible repeat (first | apply Kd.R_alloc | apply Kd.R_drewN | apply Kd.R_drew)); exact HO290.out) (Kd.R_base ho0) hb); have n1_ := Aside0.mk (Kd.R_elder' (by (with_reducible repeat (first | apply Kd.R_alloc | apply Kd.R_drewN | apply Kd.R_drew)); exact HO293.out) (Kd.R_base ho0) hb); have n2_ := Aside0.mk (Kd.R_elder' (by (with_reducible repeat (first | apply Kd.R_alloc | apply Kd.R_drewN | apply Kd.R_drew)); exact HO296.out) (Kd.R_base ho0) hb); have n3_ := Aside0.mk (Kd.R_elder' (by (with_reducible repeat (first | apply Kd.R_alloc | apply Kd.R_drewN | apply Kd.R_drew)); exact HO302.out) (Kd.R_base ho0) hb); have n4_ := Aside0.mk (Kd.R_elder' (by (with_reducible repeat (first | apply Kd.R_alloc | apply Kd.R_drewN | apply Kd.R_drew)); exact HO306.out) (Kd.R_base ho0) hb); have n5_ := Aside0.mk (Kd.R_lower (Kd.R_new' (Kd.R_new' (Kd.R_new' (Kd.R_new' (Kd.R_new' ho0 (Kd.R_lt (by (with_reducible repeat (first | apply Kd.R_alloc | apply Kd.R_drewN | apply Kd.R_drew)); exact HO290.out))) (Kd.R_lt (by (with_reducible repeat (first | apply Kd.R_alloc | apply Kd.R_drewN | apply Kd.R_drew)); exact HO293.out))) (Kd.R_lt (by (with_reducible repeat (first | apply Kd.R_alloc | apply Kd.R_drewN | apply Kd.R_drew)); exact HO296.out))) (Kd.R_lt (by (with_reducible repeat (first | apply Kd.R_alloc | apply Kd.R_drewN | apply Kd.R_drew)); exact HO302.out))) (Kd.R_lt (by (with_reducible repeat (first | apply Kd.R_alloc | apply Kd.R_drewN | apply Kd.R_drew)); exact HO306.out))) (below_size (by repeat (first | (with_reducible first | exact HB.out | apply below_alloc | apply pw_below_drewN | apply below_drew1) | exact HB.out)))); have n6_ := Aside0.mk (below_step (by repeat (first | (with_reducible first | exact HB.out | apply below_alloc | apply pw_below_drewN | apply below_drew1) | exact HB.out)) hb); clear HO290; clear HO293; clear HO296; clear HO302; clear HO306; clear HB; have HO290 := n0_; have HO293 := n1_; have HO296 := n2_; have HO302 := n3_; have HO306 := n4_; have HO310 := n5_; have HB := n6_; clear n0_ n1_ n2_ n3_ n4_ n5_ n6_; (try clear hb); (try clear hb2); (try clear hk); (try clear hi); (try clear ho0)) | ((with_reducible refine gate_callee (f := 22) rfl ?_); refine goesL_ (some 83) rfl rfl Try.func22 (by kernel_rfl) rfl #[.slice Ao27 t288.length co27, .slice Ao29 t291.length co29, .int .i64 t297] rfl (by (try simp only [List.map_toArray, List.map_cons, List.map_nil]); first | done | rfl | (simp only [List.length_drop, List.length_take]; rfl)) ?_; (with_reducible refine (timeline_Join.calls _ _ t288 _ _ t291 t297 t311 t312 _ ?side1 ?side2 ?side3 ?side4 A18.out).mono ?_); (case side1 => repeat (first | exact (Kd.R_reads' HO290.out).2.2 | (with_reducible refine Kd.C_alloc ?_ _) | (with_reducible refine Kd.C_drewN ?_ _) | (with_reducible refine Kd.C_drew ?_))); (case side2 => exact (Kd.R_reads' HO290.out).2.1); (case side3 => repeat (first | exact (Kd.R_reads' HO293.out).2.2 | (with_reducible refine Kd.C_alloc ?_ _) | (with_reducible refine Kd.C_drewN ?_ _) | (with_reducible refine Kd.C_drew ?_))); (case side4 => exact (Kd.R_reads' HO293.out).2.1); rintro e w32 ⟨v313, rfl, ho0, hb⟩; refine ⟨_, rfl, ?_⟩; have n0_ := Aside0.mk (Kd.R_elder' (by (with_reducible repeat (first | apply Kd.R_alloc | apply Kd.R_drewN | apply Kd.R_drew)); exact HO290.out) (Kd.R_base ho0) hb); have n1_ := Aside0.mk (Kd.R_elder' (by (with_reducible repeat (first | apply Kd.R_alloc | apply Kd.R_drewN | apply Kd.R_drew)); exact HO293.out) (Kd.R_base ho0) hb); have n2_ := Aside0.mk (Kd.R_elder' (by (with_reducible repeat (first | apply Kd.R_alloc | apply Kd.R_drewN | apply Kd.R_drew)); exact HO296.out) (Kd.R_base ho0) hb); have n3_ := Aside0.mk (Kd.R_elder' (by (with_reducible repeat (first | apply Kd.R_alloc | apply Kd.R_drewN | apply Kd.R_drew)); exact HO302.out) (Kd.R_base ho0) hb); have n4_ := Aside0.mk (Kd.R_elder' (by (with_reducible repeat (first | apply Kd.R_alloc | apply Kd.R_drewN | apply Kd.R_drew)); exact HO306.out) (Kd.R_base ho0) hb); have n5_ := Aside0.mk (Kd.R_elder' (by (with_reducible repeat (first | apply Kd.R_alloc | apply Kd.R_drewN | apply Kd.R_drew)); exact HO310.out) (Kd.R_base ho0) hb); have n6_ := Aside0.mk (Kd.R_lower (Kd.R_new' (Kd.R_new' (Kd.R_new' (Kd.R_new' (Kd.R_new' (Kd.R_new' ho0 (Kd.R_lt (by (with_reducible repeat (first | apply Kd.R_alloc | apply Kd.R_drewN | apply Kd.R_drew)); exact HO290.out))) (Kd.R_lt (by (with_reducible repeat (first | apply Kd.R_alloc | apply Kd.R_drewN | apply Kd.R_drew)); exact HO293.out))) (Kd.R_lt (by (with_reducible repeat (first | apply Kd.R_alloc | apply Kd.R_drewN | apply Kd.R_drew)); exact HO296.out))) (Kd.R_lt (by (with_reducible repeat (first | apply Kd.R_alloc | apply Kd.R_drewN | apply Kd.R_drew)); exact HO302.out))) (Kd.R_lt (by (with_reducible repeat (first | apply Kd.R_alloc | apply Kd.R_drewN | apply Kd.R_drew)); exact HO306.out))) (Kd.R_lt (by (with_reducible repeat (first | apply Kd.R_alloc | apply Kd.R_drewN | apply Kd.R_drew)); exact HO310.out))) (below_size (by repeat (first | (with_reducible first | exact HB.out | apply below_alloc | apply pw_below_drewN | apply below_drew1) | exact HB.out)))); have n7_ := Aside0.mk (below_step (by repeat (first | (with_reducible first | exact HB.out | apply below_alloc | apply pw_below_drewN | apply below_drew1) | exact HB.out)) hb); clear HO290; clear HO293; clear HO296; clear HO302; clear HO306; clear HO310; clear HB; have HO290 := n0_; have HO293 := n1_; have HO296 := n2_; have HO302 := n3_; have HO306 := n4_; have HO310 := n5_; have HO314 := n6_; have HB := n7_; clear n0_ n1_ n2_ n3_ n4_ n5_ n6_ n7_; (try clear hb); (try clear hb2); (try clear hk); (try clear hi); (try clear ho0); obtain ⟨Ao33, co33, eo33⟩ := Kd.R_slice HO314.out; subst eo33; obtain ⟨Ao34, co34, eo34⟩ := Kd.R_slice HO296.out; subst eo34) | ((with_reducible refine gate_callee (f := 22) rfl ?_); refine goesL_ (some 90) rfl rfl Try.func22 (by kernel_rfl) rfl #[.slice Ao33 t311.length co33, .slice Ao34 t294.length co34, .int .i64 (wrap64 (t297 + t298))] rfl (by (try simp only [List.map_toArray, List.map_cons, List.map_nil]); first | done | rfl | (simp only [List.length_drop, List.length_take]; rfl)) ?_; (with_reducible refine (timeline_Join.calls _ _ t311 _ _ t294 (wrap64 (t297 + t298)) t315 t316 _ ?side1 ?side2 ?side3 ?side4 A19.out).mono ?_); (case side1 => repeat (first | exact (Kd.R_reads' HO314.out).2.2 | (with_reducible refine Kd.C_alloc ?_ _) | (with_reducible refine Kd.C_drewN ?_ _) | (with_reducible refine Kd.C_drew ?_))); (case side2 => exact (Kd.R_reads' HO314.out).2.1); (case side3 => repeat (first | exact (Kd.R_reads' HO296.out).2.2 | (with_reducible refine Kd.C_alloc ?_ _) | (with_reducible refine Kd.C_drewN ?_ _) | (with_reducible refine Kd.C_drew ?_))); (case side4 => exact (Kd.R_reads' HO296.out).2.1); rintro e w35 ⟨v317, rfl, ho0, hb⟩; refine ⟨_, rfl, ?_⟩; have n0_ := Aside0.mk (Kd.R_elder' (by (with_reducible repeat (first | apply Kd.R_alloc | apply Kd.R_drewN | apply Kd.R_drew)); exact HO290.out) (Kd.R_base ho0) hb); have n1_ := Aside0.mk (Kd.R_elder' (by (with_reducible repeat (first | apply Kd.R_alloc | apply Kd.R_drewN | apply Kd.R_drew)); exact HO293.out) (Kd.R_base ho0) hb); have n2_ := Aside0.mk (Kd.R_elder' (by (with_reducible repeat (first | apply Kd.R_alloc | apply Kd.R_drewN | apply Kd.R_drew)); exact HO296.out) (Kd.R_base ho0) hb); have n3_ := Aside0.mk (Kd.R_elder' (by (with_reducible repeat (first | apply Kd.R_alloc | apply Kd.R_drewN | apply Kd.R_drew)); exact HO302.out) (Kd.R_base ho0) hb); have n4_ := Aside0.mk (Kd.R_elder' (by (with_reducible repeat (first | apply Kd.R_alloc | apply Kd.R_drewN | apply Kd.R_drew)); exact HO306.out) (Kd.R_base ho0) hb); have n5_ := Aside0.mk (Kd.R_elder' (by (with_reducible repeat (first | apply Kd.R_alloc | apply Kd.R_drewN | apply Kd.R_drew)); exact HO310.out) (Kd.R_base ho0) hb); have n6_ := Aside0.mk (Kd.R_elder' (by (with_reducible repeat (first | apply Kd.R_alloc | apply Kd.R_drewN | apply Kd.R_drew)); exact HO314.out) (Kd.R_base ho0) hb); have n7_ := Aside0.mk (Kd.R_lower (Kd.R_new' (Kd.R_new' (Kd.R_new' (Kd.R_new' (Kd.R_new' (Kd.R_new' (Kd.R_new' ho0 (Kd.R_lt (by (with_reducible repeat (first | apply Kd.R_alloc | apply Kd.R_drewN | apply Kd.R_drew)); exact HO290.out))) (Kd.R_lt (by (with_reducible repeat (first | apply Kd.R_alloc | apply Kd.R_drewN | apply Kd.R_drew)); exact HO293.out))) (Kd.R_lt (by (with_reducible repeat (first | apply Kd.R_alloc | apply Kd.R_drewN | apply Kd.R_drew)); exact HO296.out))) (Kd.R_lt (by (with_reducible repeat (first | apply Kd.R_alloc | apply Kd.R_drewN | apply Kd.R_drew)); exact HO302.out))) (Kd.R_lt (by (with_reducible repeat (first | apply Kd.R_alloc | apply Kd.R_drewN | apply Kd.R_drew)); exact HO306.out))) (Kd.R_lt (by (with_reducible repeat (first | apply Kd.R_alloc | apply Kd.R_drewN | apply Kd.R_drew)); exact HO310.out))) (Kd.R_lt (by (with_reducible repeat (first | apply Kd.R_alloc | apply Kd.R_drewN | apply Kd.R_drew)); exact HO314.out))) (below_size (by repeat (first | (with_reducible first | exact HB.out | apply below_alloc | apply pw_below_drewN | apply below_drew1) | exact HB.out)))); have n8_ := Aside0.mk (below_step (by repeat (first | (with_reducible first | exact HB.out | apply below_alloc | apply pw_below_drewN | apply below_drew1) | exact HB.out)) hb); clear HO290; clear HO293; clear HO296; clear HO302; clear HO306; clear HO310; clear HO314; clear HB; have HO290 := n0_; have HO293 := n1_; have HO296 := n2_; have HO302 := n3_; have HO306 := n4_; have HO310 := n5_; have HO314 := n6_; have HO318 := n7_; have HB := n8_; clear n0_ n1_ n2_ n3_ n4_ n5_ n6_ n7_ n8_; (try clear hb); (try clear hb2); (try clear hk); (try clear hi); (try clear ho0)) | ((with_reducible refine gate_callee (f := 22) rfl ?_); refine goesL_ (some 97) rfl rfl Try.func22 (by kernel_rfl) rfl #[.slice Ao29 t291.length co29, .slice Ao34 t294.length co34, .int .i64 (wrap64 (t297 + t298))] rfl (by (try simp only [List.map_toArray, List.map_cons, List.map_nil]); first | done | rfl | (simp only [List.length_drop, List.length_take]; rfl)) ?_; (with_reducible refine (timeline_Join.calls _ _ t291 _ _ t294 (wrap64 (t297 + t298)) t319 t320 _ ?side1 ?side2 ?side3 ?side4 A20.out).mono ?_); (case side1 => repeat (first | exact (Kd.R_reads' HO293.out).2.2 | (with_reducible refine Kd.C_alloc ?_ _) | (with_reducible refine Kd.C_drewN ?_ _) | (with_reducible refine Kd.C_drew ?_))); (case side2 => exact (Kd.R_reads' HO293.out).2.1); (case side3 => repeat (first | exact (Kd.R_reads' HO296.out).2.2 | (with_reducible refine Kd.C_alloc ?_ _) | (with_reducible refine Kd.C_drewN ?_ _) | (with_reducible refine Kd.C_drew ?_))); (case side4 => exact (Kd.R_reads' HO296.out).2.1); rintro e w36 ⟨v321, rfl, ho0, hb⟩; refine ⟨_, rfl, ?_⟩; have n0_ := Aside0.mk (Kd.R_elder' (by (with_reducible repeat (first | apply Kd.R_alloc | apply Kd.R_drewN | apply Kd.R_drew)); exact HO290.out) (Kd.R_base ho0) hb); have n1_ := Aside0.mk (Kd.R_elder' (by (with_reducible repeat (first | apply Kd.R_alloc | apply Kd.R_drewN | apply Kd.R_drew)); exact HO293.out) (Kd.R_base ho0) hb); have n2_ := Aside0.mk (Kd.R_elder' (by (with_reducible repeat (first | apply Kd.R_alloc | apply Kd.R_drewN | apply Kd.R_drew)); exact HO296.out) (Kd.R_base ho0) hb); have n3_ := Aside0.mk (Kd.R_elder' (by (with_reducible repeat (first | apply Kd.R_alloc | apply Kd.R_drewN | apply Kd.R_drew)); exact HO302.out) (Kd.R_base ho0) hb); have n4_ := Aside0.mk (Kd.R_elder' (by (with_reducible repeat (first | apply Kd.R_alloc | apply Kd.R_drewN | apply Kd.R_drew)); exact HO306.out) (Kd.R_base ho0) hb); have n5_ := Aside0.mk (Kd.R_elder' (by (with_reducible repeat (first | apply Kd.R_alloc | apply Kd.R_drewN | apply Kd.R_drew)); exact HO310.out) (Kd.R_base ho0) hb); have n6_ := Aside0.mk (Kd.R_elder' (by (with_reducible repeat (first | apply Kd.R_alloc | apply Kd.R_drewN | apply Kd.R_drew)); exact HO314.out) (Kd.R_base ho0) hb); have n7_ := Aside0.mk (Kd.R_elder' (by (with_reducible repeat (first | apply Kd.R_alloc | apply Kd.R_drewN | apply Kd.R_drew)); exact HO318.out) (Kd.R_base ho0) hb); have n8_ := Aside0.mk (Kd.R_lower (Kd.R_new' (Kd.R_new' (Kd.R_new' (Kd.R_new' (Kd.R_new' (Kd.R_new' (Kd.R_new' (Kd.R_new' ho0 (Kd.R_lt (by (with_reducible repeat (first | apply Kd.R_alloc | apply Kd.R_drewN | apply Kd.R_drew)); exact HO290.out))) (Kd.R_lt (by (with_reducible repeat (first | apply Kd.R_alloc | apply Kd.R_drewN | apply Kd.R_drew)); exact HO293.out))) (Kd.R_lt (by (with_reducible repeat (first | apply Kd.R_alloc | apply Kd.R_drewN | apply Kd.R_drew)); exact HO296.out))) (Kd.R_lt (by (with_reducible repeat (first | apply Kd.R_alloc | apply Kd.R_drewN | apply Kd.R_drew)); exact HO302.out))) (Kd.R_lt (by (with_reducible repeat (first | apply Kd.R_alloc | apply Kd.R_drewN | apply Kd.R_drew)); exact HO306.out))) (Kd.R_lt (by (with_reducible repeat (first | apply Kd.R_alloc | apply Kd.R_drewN | apply Kd.R_drew)); exact HO310.out))) (Kd.R_lt (by (with_reducible repeat (first | apply Kd.R_alloc | apply Kd.R_drewN | apply Kd.R_drew)); exact HO314.out))) (Kd.R_lt (by (with_reducible repeat (first | apply Kd.R_alloc | apply Kd.R_drewN | apply Kd.R_drew)); exact HO318.out))) (below_size (by repeat (first | (with_reducible first | exact HB.out | apply below_alloc | apply pw_below_drewN | apply below_drew1) | exact HB.out)))); have n9_ := Aside0.mk (below_step (by repeat (first | (with_reducible first | exact HB.out | apply below_alloc | apply pw_below_drewN | apply below_drew1) | exact HB.out)) hb); clear HO290; clear HO293; clear HO296; clear HO302; clear HO306; clear HO310; clear HO314; clear HO318; clear HB; have HO290 := n0_; have HO293 := n1_; have HO296 := n2_; have HO302 := n3_; have HO306 := n4_; have HO310 := n5_; have HO314 := n6_; have HO318 := n7_; have HO322 := n8_; have HB := n9_; clear n0_ n1_ n2_ n3_ n4_ n5_ n6_ n7_ n8_ n9_; (try clear hb); (try clear hb2); (try clear hk); (try clear hi); (try clear ho0); obtain ⟨Ao37, co37, eo37⟩ := Kd.R_slice HO322.out; subst eo37) | ((with_reducible refine gate_callee (f := 22) rfl ?_); refine goesL_ (some 104) rfl rfl Try.func22 (by kernel_rfl) rfl #[.slice Ao27 t288.length co27, .slice Ao37 t319.length co37, .int .i64 t297] rfl (by (try simp only [List.map_toArray, List.map_cons, List.map_nil]); first | done | rfl | (simp only [List.length_drop, List.length_take]; rfl)) ?_; (with_reducible refine (timeline_Join.calls _ _ t288 _ _ t319 t297 t323 t324 _ ?side1 ?side2 ?side3 ?side4 A21.out).mono ?_); (case side1 => repeat (first | exact (Kd.R_reads' HO290.out).2.2 | (with_reducible refine Kd.C_alloc ?_ _) | (with_reducible refine Kd.C_drewN ?_ _) | (with_reducible refine Kd.C_drew ?_))); (case side2 => exact (Kd.R_reads' HO290.out).2.1); (case side3 => repeat (first | exact (Kd.R_reads' HO322.out).2.2 | (with_reducible refine Kd.C_alloc ?_ _) | (with_reducible refine Kd.C_drewN ?_ _) | (with_reducible refine Kd.C_drew ?_))); (case side4 => exact (Kd.R_reads' HO322.out).2.1); rintro e w38 ⟨v325, rfl, ho0, hb⟩; refine ⟨_, rfl, ?_⟩; have n0_ := Aside0.mk (Kd.R_elder' (by (with_reducible repeat (first | apply Kd.R_alloc | apply Kd.R_drewN | apply Kd.R_drew)); exact HO290.out) (Kd.R_base ho0) hb); have n1_ := Aside0.mk (Kd.R_elder' (by (with_reducible repeat (first | apply Kd.R_alloc | apply Kd.R_drewN | apply Kd.R_drew)); exact HO293.out) (Kd.R_base ho0) hb); have n2_ := Aside0.mk (Kd.R_elder' (by (with_reducible repeat (first | apply Kd.R_alloc | apply Kd.R_drewN | apply Kd.R_drew)); exact HO296.out) (Kd.R_base ho0) hb); have n3_ := Aside0.mk (Kd.R_elder' (by (with_reducible repeat (first | apply Kd.R_alloc | apply Kd.R_drewN | apply Kd.R_drew)); exact HO302.out) (Kd.R_base ho0) hb); have n4_ := Aside0.mk (Kd.R_elder' (by (with_reducible repeat (first | apply Kd.R_alloc | apply Kd.R_drewN | apply Kd.R_drew)); exact HO306.out) (Kd.R_base ho0) hb); have n5_ := Aside0.mk (Kd.R_elder' (by (with_reducible repeat (first | apply Kd.R_alloc | apply Kd.R_drewN | apply Kd.R_drew)); exact HO310.out) (Kd.R_base ho0) hb); have n6_ := Aside0.mk (Kd.R_elder' (by (with_reducible repeat (first | apply Kd.R_alloc | apply Kd.R_drewN | apply Kd.R_drew)); exact HO314.out) (Kd.R_base ho0) hb); have n7_ := Aside0.mk (Kd.R_elder' (by (with_reducible repeat (first | apply Kd.R_alloc | apply Kd.R_drewN | apply Kd.R_drew)); exact HO318.out) (Kd.R_base ho0) hb); have n8_ := Aside0.mk (Kd.R_elder' (by (with_reducible repeat (first | apply Kd.R_alloc | apply Kd.R_drewN | apply Kd.R_drew)); exact HO322.out) (Kd.R_base ho0) hb); have n9_ := Aside0.mk (Kd.R_lower (Kd.R_new' (Kd.R_new' (Kd.R_new' (Kd.R_new' (Kd.R_new' (Kd.R_new' (Kd.R_new' (Kd.R_new' (Kd.R_new' ho0 (Kd.R_lt (by (with_reducible repeat (first | apply Kd.R_alloc | apply Kd.R_drewN | apply Kd.R_drew)); exact HO290.out))) (Kd.R_lt (by (with_reducible repeat (first | apply Kd.R_alloc | apply Kd.R_drewN | apply Kd.R_drew)); exact HO293.out))) (Kd.R_lt (by (with_reducible repeat (first | apply Kd.R_alloc | apply Kd.R_drewN | apply Kd.R_drew)); exact HO296.out))) (Kd.R_lt (by (with_reducible repeat (first | apply Kd.R_alloc | apply Kd.R_drewN | apply Kd.R_drew)); exact HO302.out))) (Kd.R_lt (by (with_reducible repeat (first | apply Kd.R_alloc | apply Kd.R_drewN | apply Kd.R_drew)); exact HO306.out))) (Kd.R_lt (by (with_reducible repeat (first | apply Kd.R_alloc | apply Kd.R_drewN | apply Kd.R_drew)); exact HO310.out))) (Kd.R_lt (by (with_reducible repeat (first | apply Kd.R_alloc | apply Kd.R_drewN | apply Kd.R_drew)); exact HO314.out))) (Kd.R_lt (by (with_reducible repeat (first | apply Kd.R_alloc | apply Kd.R_drewN | apply Kd.R_drew)); exact HO318.out))) (Kd.R_lt (by (with_reducible repeat (first | apply Kd.R_alloc | apply Kd.R_drewN | apply Kd.R_drew)); exact HO322.out))) (below_size (by repeat (first | (with_reducible first | exact HB.out | apply below_alloc | apply pw_below_drewN | apply below_drew1) | exact HB.out)))); have n10_ := Aside0.mk (below_step (by repeat (first | (with_reducible first | exact HB.out | apply below_alloc | apply pw_below_drewN | apply below_drew1) | exact HB.out)) hb); clear HO290; clear HO293; clear HO296; clear HO302; clear HO306; clear HO310; clear HO314; clear HO318; clear HO322; clear HB; have HO290 := n0_; have HO293 := n1_; have HO296 := n2_; have HO302 := n3_; have HO306 := n4_; have HO310 := n5_; have HO314 := n6_; have HO318 := n7_; have HO322 := n8_; have HO326 := n9_; have HB := n10_; clear n0_ n1_ n2_ n3_ n4_ n5_ n6_ n7_ n8_ n9_ n10_; (try clear hb); (try clear hb2); (try clear hk); (try clear hi); (try clear ho0)))
    (try simp only [Act.put, List.setIfInBounds_toArray, List.set_cons_zero, List.set_cons_succ])
    go_cut [132] (fun v132 wc => ∃ (kq : Nat) (x132_21 : Bool), v132 = .bool x132_21 ∧ Aside0 (airchecklaw15_TimelineJoin.j0 kq t288 t291 t299 t303 t307 t315 t323 x132_21 = some r) ∧ Aside0 (kq ≤ k) ∧ Aside0 (Kd.R k25 25 wc w.heap.size (fun k_ => some k_ ≠ ((.slice Ao29 t291.length co29) : Value).ownBlock ∧ some k_ ≠ (v301 : Value).ownBlock ∧ some k_ ≠ (v305 : Value).ownBlock ∧ some k_ ≠ (v309 : Value).ownBlock ∧ some k_ ≠ (v317 : Value).ownBlock ∧ some k_ ≠ (v325 : Value).ownBlock) (.slice Ao27 t288.length co27) t288) ∧ Aside0 (Kd.R k25 25 wc w.heap.size (fun k_ => some k_ ≠ ((.slice Ao27 t288.length co27) : Value).ownBlock ∧ some k_ ≠ (v301 : Value).ownBlock ∧ some k_ ≠ (v305 : Value).ownBlock ∧ some k_ ≠ (v309 : Value).ownBlock ∧ some k_ ≠ (v317 : Value).ownBlock ∧ some k_ ≠ (v325 : Value).ownBlock) (.slice Ao29 t291.length co29) t291) ∧ Aside0 (Kd.R k25 25 wc w.heap.size (fun k_ => some k_ ≠ ((.slice Ao27 t288.length co27) : Value).ownBlock ∧ some k_ ≠ ((.slice Ao29 t291.length co29) : Value).ownBlock ∧ some k_ ≠ (v305 : Value).ownBlock ∧ some k_ ≠ (v309 : Value).ownBlock ∧ some k_ ≠ (v317 : Value).ownBlock ∧ some k_ ≠ (v325 : Value).ownBlock) v301 t299) ∧ Aside0 (Kd.R k25 25 wc w.heap.size (fun k_ => some k_ ≠ ((.slice Ao27 t288.length co27) : Value).ownBlock ∧ some k_ ≠ ((.slice Ao29 t291.length co29) : Value).ownBlock ∧ some k_ ≠ (v301 : Value).ownBlock ∧ some k_ ≠ (v309 : Value).ownBlock ∧ some k_ ≠ (v317 : Value).ownBlock ∧ some k_ ≠ (v325 : Value).ownBlock) v305 t303) ∧ Aside0 (Kd.R k25 25 wc w.heap.size (fun k_ => some k_ ≠ ((.slice Ao27 t288.length co27) : Value).ownBlock ∧ some k_ ≠ ((.slice Ao29 t291.length co29) : Value).ownBlock ∧ some k_ ≠ (v301 : Value).ownBlock ∧ some k_ ≠ (v305 : Value).ownBlock ∧ some k_ ≠ (v317 : Value).ownBlock ∧ some k_ ≠ (v325 : Value).ownBlock) v309 t307) ∧ Aside0 (Kd.R k25 25 wc w.heap.size (fun k_ => some k_ ≠ ((.slice Ao27 t288.length co27) : Value).ownBlock ∧ some k_ ≠ ((.slice Ao29 t291.length co29) : Value).ownBlock ∧ some k_ ≠ (v301 : Value).ownBlock ∧ some k_ ≠ (v305 : Value).ownBlock ∧ some k_ ≠ (v309 : Value).ownBlock ∧ some k_ ≠ (v325 : Value).ownBlock) v317 t315) ∧ Aside0 (Kd.R k25 25 wc w.heap.size (fun k_ => some k_ ≠ ((.slice Ao27 t288.length co27) : Value).ownBlock ∧ some k_ ≠ ((.slice Ao29 t291.length co29) : Value).ownBlock ∧ some k_ ≠ (v301 : Value).ownBlock ∧ some k_ ≠ (v305 : Value).ownBlock ∧ some k_ ≠ (v309 : Value).ownBlock ∧ some k_ ≠ (v317 : Value).ownBlock) v325 t323) ∧ Aside0 (Below w.heap.size w wc))
    case first =>
      have H := HC22.out
      clear HC22
      by_cases c39 : t300 = 0
      · rw [if_pos c39] at H
        have c39b0 : (t300 == 0) = true := beq_iff_eq.mpr c39
        have c39b1 : (t300 != 0) = false := bne_eq_false_iff_eq.mpr c39
        clear c39
        (first | rw [c39b0] | (simp only [i64_w, i32_w]; rw [c39b0]) | skip)
        by_cases c40 : t304 = 0
        · rw [if_pos c40] at H
          have c40b0 : (t304 == 0) = true := beq_iff_eq.mpr c40
          have c40b1 : (t304 != 0) = false := bne_eq_false_iff_eq.mpr c40
          clear c40
          by_cases c41 : t308 = 0
          · rw [if_pos c41] at H
            have c41b0 : (t308 == 0) = true := beq_iff_eq.mpr c41
            have c41b1 : (t308 != 0) = false := bne_eq_false_iff_eq.mpr c41
            clear c41
            by_cases c42 : t312 = 0
            · rw [if_pos c42] at H
              have c42b0 : (t312 == 0) = true := beq_iff_eq.mpr c42
              have c42b1 : (t312 != 0) = false := bne_eq_false_iff_eq.mpr c42
              clear c42
              by_cases c43 : t316 = 0
              · rw [if_pos c43] at H
                have c43b0 : (t316 == 0) = true := beq_iff_eq.mpr c43
                have c43b1 : (t316 != 0) = false := bne_eq_false_iff_eq.mpr c43
                clear c43
                by_cases c44 : t320 = 0
                · rw [if_pos c44] at H
                  have c44b0 : (t320 == 0) = true := beq_iff_eq.mpr c44
                  have c44b1 : (t320 != 0) = false := bne_eq_false_iff_eq.mpr c44
                  clear c44
                  have H' := Aside0.mk H
                  clear H
                  go_wp2
                  go_meet
                  case rel => exact ⟨_, ((t324 != 0)), (by first | rfl | (simp; done) | (simp [*]; done)), H', ⟨by first | omega | exact Nat.le_refl _⟩, ⟨by (with_reducible repeat (first | apply Kd.R_alloc | apply Kd.R_drewN | apply Kd.R_drew)); exact Kd.R_mono HO290.out (fun _ hk => ⟨hk.1.1.1.1.1.1.1.1.2, ⟨hk.1.1.1.1.1.1.2, ⟨hk.1.1.1.1.1.2, ⟨hk.1.1.1.1.2, ⟨hk.1.1.2, hk.2⟩⟩⟩⟩⟩)⟩, ⟨by (with_reducible repeat (first | apply Kd.R_alloc | apply Kd.R_drewN | apply Kd.R_drew)); exact Kd.R_mono HO293.out (fun _ hk => ⟨hk.1.1.1.1.1.1.1.1.2, ⟨hk.1.1.1.1.1.1.2, ⟨hk.1.1.1.1.1.2, ⟨hk.1.1.1.1.2, ⟨hk.1.1.2, hk.2⟩⟩⟩⟩⟩)⟩, ⟨by (with_reducible repeat (first | apply Kd.R_alloc | apply Kd.R_drewN | apply Kd.R_drew)); exact Kd.R_mono HO302.out (fun _ hk => ⟨hk.1.1.1.1.1.1.1.1.2, ⟨hk.1.1.1.1.1.1.1.2, ⟨hk.1.1.1.1.1.2, ⟨hk.1.1.1.1.2, ⟨hk.1.1.2, hk.2⟩⟩⟩⟩⟩)⟩, ⟨by (with_reducible repeat (first | apply Kd.R_alloc | apply Kd.R_drewN | apply Kd.R_drew)); exact Kd.R_mono HO306.out (fun _ hk => ⟨hk.1.1.1.1.1.1.1.1.2, ⟨hk.1.1.1.1.1.1.1.2, ⟨hk.1.1.1.1.1.2, ⟨hk.1.1.1.1.2, ⟨hk.1.1.2, hk.2⟩⟩⟩⟩⟩)⟩, ⟨by (with_reducible repeat (first | apply Kd.R_alloc | apply Kd.R_drewN | apply Kd.R_drew)); exact Kd.R_mono HO310.out (fun _ hk => ⟨hk.1.1.1.1.1.1.1.1.2, ⟨hk.1.1.1.1.1.1.1.2, ⟨hk.1.1.1.1.1.2, ⟨hk.1.1.1.1.2, ⟨hk.1.1.2, hk.2⟩⟩⟩⟩⟩)⟩, ⟨by (with_reducible repeat (first | apply Kd.R_alloc | apply Kd.R_drewN | apply Kd.R_drew)); exact Kd.R_mono HO318.out (fun _ hk => ⟨hk.1.1.1.1.1.1.1.1.2, ⟨hk.1.1.1.1.1.1.1.2, ⟨hk.1.1.1.1.1.2, ⟨hk.1.1.1.1.2, ⟨hk.1.1.1.2, hk.2⟩⟩⟩⟩⟩)⟩, ⟨by (with_reducible repeat (first | apply Kd.R_alloc | apply Kd.R_drewN | apply Kd.R_drew)); exact Kd.R_mono HO326.out (fun _ hk => ⟨hk.1.1.1.1.1.1.1.1.2, ⟨hk.1.1.1.1.1.1.1.2, ⟨hk.1.1.1.1.1.2, ⟨hk.1.1.1.1.2, ⟨hk.1.1.1.2, hk.1.2⟩⟩⟩⟩⟩)⟩, ⟨by repeat (first | (with_reducible first | exact HB.out | apply below_alloc | apply pw_below_drewN | apply below_drew1) | exact HB.out)⟩⟩
                · rw [if_neg c44] at H
                  have c44b0 : (t320 == 0) = false := beq_eq_false_iff_ne.mpr c44
                  have c44b1 : (t320 != 0) = true := bne_iff_ne.mpr c44
                  exact absurd H (by rw [hr0.out]; unfold airchecklaw15_TimelineJoin.j0; split <;> simp)
              · rw [if_neg c43] at H
                have c43b0 : (t316 == 0) = false := beq_eq_false_iff_ne.mpr c43
                have c43b1 : (t316 != 0) = true := bne_iff_ne.mpr c43
                exact absurd H (by rw [hr0.out]; unfold airchecklaw15_TimelineJoin.j0; split <;> simp)
            · rw [if_neg c42] at H
              have c42b0 : (t312 == 0) = false := beq_eq_false_iff_ne.mpr c42
              have c42b1 : (t312 != 0) = true := bne_iff_ne.mpr c42
              exact absurd H (by rw [hr0.out]; unfold airchecklaw15_TimelineJoin.j0; split <;> simp)
          · rw [if_neg c41] at H
            have c41b0 : (t308 == 0) = false := beq_eq_false_iff_ne.mpr c41
            have c41b1 : (t308 != 0) = true := bne_iff_ne.mpr c41
            exact absurd H (by rw [hr0.out]; unfold airchecklaw15_TimelineJoin.j0; split <;> simp)
        · rw [if_neg c40] at H
          have c40b0 : (t304 == 0) = false := beq_eq_false_iff_ne.mpr c40
          have c40b1 : (t304 != 0) = true := bne_iff_ne.mpr c40
          exact absurd H (by rw [hr0.out]; unfold airchecklaw15_TimelineJoin.j0; split <;> simp)
      · rw [if_neg c39] at H
        have c39b0 : (t300 == 0) = false := beq_eq_false_iff_ne.mpr c39
        have c39b1 : (t300 != 0) = true := bne_iff_ne.mpr c39
        (first | rw [c39b0] | (simp only [i64_w, i32_w]; rw [c39b0]) | skip)
        exact absurd H (by rw [hr0.out]; unfold airchecklaw15_TimelineJoin.j0; split <;> simp)
    case rest => as_aux_lemma =>
      clear HC22
      try clear c1
      try clear c2
      try clear p2
      try clear c3
      try clear c4
      try clear p6
      try clear c7
      try clear c8
      try clear c10
      try clear c11
      try clear c13
      try clear c22
      try clear c39
      try clear c39b0
      try clear c39b1
      try clear c40
      try clear c40b0
      try clear c40b1
      try clear c41
      try clear c41b0
      try clear c41b1
      try clear c42
      try clear c42b0
      try clear c42b1
      try clear c43
      try clear c43b0
      try clear c43b1
      try clear c44
      try clear c44b0
      try clear c44b1
      obtain ⟨kq, x132_21, rfl, HA, HJ21, HO_14, HO_15, HO_19, HO_21, HO_23, HO_27, HO_31, HB⟩ := hcut
      cases kq with
      | zero => exact absurd HA.out (by simp [airchecklaw15_TimelineJoin.j0])
      | succ kj21 =>
        have H := HA.out
        clear HA
        simp only [airchecklaw15_TimelineJoin.j0] at H
        by_cases c45 : x132_21 = true
        · subst c45
          have H1 : (some false) = some r := by rw [if_pos rfl] at H; exact H
          exact absurd (Option.some.inj H1) (by rw [hr0.out]; exact Bool.false_ne_true)
        · replace c45 := Bool.eq_false_iff.mpr c45
          subst c45
          have H1 : ((aircheckref15_Same.f kj21 t299 t288).bind fun t327 => (if t327 = true then ((aircheckref15_Same.f kj21 t303 t291).bind fun t328 => (if t328 = true then ((aircheckref15_Same.f kj21 t307 t288).bind fun t329 => (if t329 = true then ((aircheckref15_Same.f kj21 t315 t323).bind fun t330 => (some t330)) else (some false))) else (some false))) else (some false))) = some r := by rw [if_neg (show ¬ (false = true) by decide)] at H; exact H
          clear H
          have H := H1
          clear H1
          replace H := Option.bind_eq_some_iff.mp H
          obtain ⟨t327, A460, H⟩ := H
          replace H : (if t327 = true then ((aircheckref15_Same.f kj21 t303 t291).bind fun t328 => (if t328 = true then ((aircheckref15_Same.f kj21 t307 t288).bind fun t329 => (if t329 = true then ((aircheckref15_Same.f kj21 t315 t323).bind fun t330 => (some t330)) else (some false))) else (some false))) else (some false)) = some r := H
          have A46 := Aside0.mk A460
          clear A460
          by_cases c47 : t327 = true
          · subst c47
            have H1 : ((aircheckref15_Same.f kj21 t303 t291).bind fun t328 => (if t328 = true then ((aircheckref15_Same.f kj21 t307 t288).bind fun t329 => (if t329 = true then ((aircheckref15_Same.f kj21 t315 t323).bind fun t330 => (some t330)) else (some false))) else (some false))) = some r := by rw [if_pos rfl] at H; exact H
            clear H
            have H := H1
            clear H1
            replace H := Option.bind_eq_some_iff.mp H
            obtain ⟨t328, A480, H⟩ := H
            replace H : (if t328 = true then ((aircheckref15_Same.f kj21 t307 t288).bind fun t329 => (if t329 = true then ((aircheckref15_Same.f kj21 t315 t323).bind fun t330 => (some t330)) else (some false))) else (some false)) = some r := H
            have A48 := Aside0.mk A480
            clear A480
            by_cases c49 : t328 = true
            · subst c49
              have H1 : ((aircheckref15_Same.f kj21 t307 t288).bind fun t329 => (if t329 = true then ((aircheckref15_Same.f kj21 t315 t323).bind fun t330 => (some t330)) else (some false))) = some r := by rw [if_pos rfl] at H; exact H
              clear H
              have H := H1
              clear H1
              replace H := Option.bind_eq_some_iff.mp H
              obtain ⟨t329, A500, H⟩ := H
              replace H : (if t329 = true then ((aircheckref15_Same.f kj21 t315 t323).bind fun t330 => (some t330)) else (some false)) = some r := H
              have A50 := Aside0.mk A500
              clear A500
              by_cases c51 : t329 = true
              · subst c51
                have H1 : ((aircheckref15_Same.f kj21 t315 t323).bind fun t330 => (some t330)) = some r := by rw [if_pos rfl] at H; exact H
                clear H
                have H := H1
                clear H1
                replace H := Option.bind_eq_some_iff.mp H
                obtain ⟨t330, A520, H⟩ := H
                replace H : (some t330) = some r := H
                have A52 := Aside0.mk A520
                clear A520
                obtain rfl := Option.some.inj H
                obtain ⟨Ao53, co53, eo53⟩ := Kd.R_slice HO_19.out
                subst eo53
                go_wp2_with (first | ((with_reducible refine gate_callee (f := 24) rfl ?_); refine goesL_ (some 135) rfl rfl Try.func24 (by kernel_rfl) rfl #[.slice Ao53 t299.length co53, .slice Ao27 t288.length co27] rfl (by (try simp only [List.map_toArray, List.map_cons, List.map_nil]); first | done | rfl | (simp only [List.length_drop, List.length_take]; rfl)) ?_; (with_reducible refine (aircheckref15_Same.calls kj21 _ _ t299 _ _ t288 true _ ?side1 ?side2 ?side3 ?side4 A46.out).mono ?_); (case side1 => repeat (first | exact (Kd.R_reads' HO_19.out).2.2 | (with_reducible refine Kd.C_alloc ?_ _) | (with_reducible refine Kd.C_drewN ?_ _) | (with_reducible refine Kd.C_drew ?_))); (case side2 => exact (Kd.R_reads' HO_19.out).2.1); (case side3 => repeat (first | exact (Kd.R_reads' HO_14.out).2.2 | (with_reducible refine Kd.C_alloc ?_ _) | (with_reducible refine Kd.C_drewN ?_ _) | (with_reducible refine Kd.C_drew ?_))); (case side4 => exact (Kd.R_reads' HO_14.out).2.1); rintro e w' ⟨rfl, ⟨nd, rfl⟩⟩; refine ⟨_, rfl, ?_⟩; obtain ⟨Ao54, co54, eo54⟩ := Kd.R_slice HO_21.out; subst eo54) | (go_at_call 24; (with_reducible refine (aircheckref15_Same.calls kj21 _ _ t303 _ _ t291 true _ ?side1 ?side2 ?side3 ?side4 A48.out).mono ?_); (case side1 => repeat (first | exact (Kd.R_reads' HO_21.out).2.2 | (with_reducible refine Kd.C_alloc ?_ _) | (with_reducible refine Kd.C_drewN ?_ _) | (with_reducible refine Kd.C_drew ?_))); (case side2 => exact (Kd.R_reads' HO_21.out).2.1); (case side3 => repeat (first | exact (Kd.R_reads' HO_15.out).2.2 | (with_reducible refine Kd.C_alloc ?_ _) | (with_reducible refine Kd.C_drewN ?_ _) | (with_reducible refine Kd.C_drew ?_))); (case side4 => exact (Kd.R_reads' HO_15.out).2.1); rintro e w' ⟨rfl, ⟨nd, rfl⟩⟩; obtain ⟨Ao55, co55, eo55⟩ := Kd.R_slice HO_23.out; subst eo55) | (go_at_call 24; (with_reducible refine (aircheckref15_Same.calls kj21 _ _ t307 _ _ t288 true _ ?side1 ?side2 ?side3 ?side4 A50.out).mono ?_); (case side1 => repeat (first | exact (Kd.R_reads' HO_23.out).2.2 | (with_reducible refine Kd.C_alloc ?_ _) | (with_reducible refine Kd.C_drewN ?_ _) | (with_reducible refine Kd.C_drew ?_))); (case side2 => exact (Kd.R_reads' HO_23.out).2.1); (case side3 => repeat (first | exact (Kd.R_reads' HO_14.out).2.2 | (with_reducible refine Kd.C_alloc ?_ _) | (with_reducible refine Kd.C_drewN ?_ _) | (with_reducible refine Kd.C_drew ?_))); (case side4 => exact (Kd.R_reads' HO_14.out).2.1); rintro e w' ⟨rfl, ⟨nd, rfl⟩⟩; obtain ⟨Ao56, co56, eo56⟩ := Kd.R_slice HO_27.out; subst eo56; obtain ⟨Ao57, co57, eo57⟩ := Kd.R_slice HO_31.out; subst eo57) | (go_at_call 24; (with_reducible refine (aircheckref15_Same.calls kj21 _ _ t315 _ _ t323 t330 _ ?side1 ?side2 ?side3 ?side4 A52.out).mono ?_); (case side1 => repeat (first | exact (Kd.R_reads' HO_27.out).2.2 | (with_reducible refine Kd.C_alloc ?_ _) | (with_reducible refine Kd.C_drewN ?_ _) | (with_reducible refine Kd.C_drew ?_))); (case side2 => exact (Kd.R_reads' HO_27.out).2.1); (case side3 => repeat (first | exact (Kd.R_reads' HO_31.out).2.2 | (with_reducible refine Kd.C_alloc ?_ _) | (with_reducible refine Kd.C_drewN ?_ _) | (with_reducible refine Kd.C_drew ?_))); (case side4 => exact (Kd.R_reads' HO_31.out).2.1); rintro e w' ⟨rfl, ⟨nd, rfl⟩⟩))
                go_ret
                exact ⟨by first | rfl | (simp [errW_none, errW_some] <;> rfl) | (simp [*, errW_none, errW_some] <;> rfl), by repeat (first | (with_reducible first | exact HB.out | apply below_alloc | apply pw_below_drewN | apply below_drew1) | exact HB.out)⟩
              · replace c51 := Bool.eq_false_iff.mpr c51
                subst c51
                have H1 : (some false) = some r := by rw [if_neg (show ¬ (false = true) by decide)] at H; exact H
                exact absurd (Option.some.inj H1) (by rw [hr0.out]; exact Bool.false_ne_true)
            · replace c49 := Bool.eq_false_iff.mpr c49
              subst c49
              have H1 : (some false) = some r := by rw [if_neg (show ¬ (false = true) by decide)] at H; exact H
              exact absurd (Option.some.inj H1) (by rw [hr0.out]; exact Bool.false_ne_true)
          · replace c47 := Bool.eq_false_iff.mpr c47
            subst c47
            have H1 : (some false) = some r := by rw [if_neg (show ¬ (false = true) by decide)] at H; exact H
            exact absurd (Option.some.inj H1) (by rw [hr0.out]; exact Bool.false_ne_true)
  · replace c8 := Bool.eq_false_iff.mpr c8
    subst c8
    have H1 : (some false) = some r := by rw [if_neg (show ¬ (false = true) by decide)] at H; exact H
    exact absurd (Option.some.inj H1) (by rw [hr0.out]; exact Bool.false_ne_true)
/-- THE ONE PURE STATEMENT of airchecklaw15_TimelineJoin. -/
def airchecklaw15_TimelineJoin.Pure : Prop := ∀ (a0 : Int) (l1 : List (S29)) (l2 : List (S29)) (l3 : List (S29)) (a4 : Int) (a5 : Int), (Lit.int .i64 a0).wf = true → (l1.length ≤ maxLen ∧ l1.length * 24 ≤ 140737488351232 ∧ ∀ x ∈ l1, (fun x => Q29 x) x) → (l2.length ≤ maxLen ∧ l2.length * 24 ≤ 140737488351232 ∧ ∀ x ∈ l2, (fun x => Q29 x) x) → (l3.length ≤ maxLen ∧ l3.length * 24 ≤ 140737488351232 ∧ ∀ x ∈ l3, (fun x => Q29 x) x) → (Lit.int .i64 a4).wf = true → (Lit.int .i64 a5).wf = true → ∃ k, airchecklaw15_TimelineJoin.f k a0 l1 l2 l3 a4 a5 = some true
theorem airchecklaw15_TimelineJoin.walk : True := trivial

end Go.Proofs.Ytbhngbjopfjacaa.PS15
