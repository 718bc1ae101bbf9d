-- Written by the kit's print.py for all laws of the seat at once (one namespace), by a program of this session.
import Derived.Test.YtehenjjaekkcfaaQx0
import Derived.Test.YtehenjjaekkcfaaQx1
import Derived.Test.YtehenjjaekkcfaaQx18
import Derived.Test.YtehenjjaekkcfaaQx22
import Derived.Test.YtehenjjaekkcfaaQx24
import Derived.Test.YtehenjjaekkcfaaQx27
namespace Go.Proofs.Ytehenjjaekkcfaa.Q
open Go.RowKit Go.Proofs.YtehenjjaekkcfaaW.PrintWords Go.Proofs.YtehenjjaekkcfaaW.PrintLast Go.Proofs.YtehenjjaekkcfaaW.PrintMore
attribute [local go_sem] max2_int min2_int max_two min_two max_three min_three max_four min_four   -- for this text's walks alone
set_option linter.unusedVariables false
set_option linter.unusedSimpArgs false

/-! ### laws_FnExactServeRoom: function 15 -/
mutual
def laws_FnExactServeRoom.j0 : Nat → List (S77) → List (S63) → List Int → Bool → List (S43) → List (S32) → List Int → Bool → Bool → Option (Bool)
 | 0, _, _, _, _, _, _, _, _, _ => none
 | k + 1, x0, x1, x6, x7, x8, x9, x10, x11, x53 => if x53 = true then (some false) else ((laws_toGuestS.f k x0).bind fun t866 => ((laws_eqGuestS.f k x8 t866).bind fun t869 => (if t869 = true then ((laws_toChoiceS.f k x1).bind fun t870 => ((laws_eqChoiceS.f k x9 t870).bind fun t873 => (if t873 = true then ((laws_markGuestS.f k x8 1).bind fun bt874 => ((laws_markChoiceS.f k x9 bt874.1).bind fun bt876 => (if bt876.1 < 0 then (laws_FnExactServeRoom.j1 k x0 x1 x6 x7 x10 true) else ((laws_eqIntS.f k x10 x6).bind fun t878 => (if t878 = true then (laws_FnExactServeRoom.j1 k x0 x1 x6 x7 x10 (x11 != x7)) else (laws_FnExactServeRoom.j1 k x0 x1 x6 x7 x10 true)))))) else (some false)))) else (some false))))
def laws_FnExactServeRoom.j1 : Nat → List (S77) → List (S63) → List Int → Bool → List Int → Bool → Option (Bool)
 | 0, _, _, _, _, _, _ => none
 | k + 1, x0, x1, x6, x7, x10, x82 => if x82 = true then (some false) else ((laws_markIntS.f k x10 1).bind fun bt879 => ((laws_heldIntS.f k bt879.2 1).bind fun t881 => (if t881 < 0 then (some false) else (if t881 = bt879.1 then ((laws_toGuestS.f k x0).bind fun t882 => ((laws_toChoiceS.f k x1).bind fun t885 => ((impl_ServeRoom.f k t882 t885).bind fun bt888 => ((laws_eqIntS.f k bt888.1 x6).bind fun t892 => (if t892 = true then (laws_FnExactServeRoom.j2 k bt879.2 bt879.1 (bt888.2 != x7)) else (laws_FnExactServeRoom.j2 k bt879.2 bt879.1 true)))))) else (some false)))))
def laws_FnExactServeRoom.j2 : Nat → List Int → Int → Bool → Option (Bool)
 | 0, _, _, _ => none
 | k + 1, x10, x13, x110 => if x110 = true then (some false) else ((laws_heldIntS.f k x10 1).bind fun t893 => (if t893 < 0 then (some false) else (if t893 = x13 then (some true) else (some false))))
end
def laws_FnExactServeRoom.f (k : Nat) (l0 : List (S77)) (l1 : List (S63)) : Option (Bool) := (laws_szGuestS.f l0 1048576).bind fun t843 => (if t843 < 0 then (some true) else ((laws_szChoiceS.f l1 t843).bind fun t844 => (if t844 < 0 then (some true) else ((laws_toGuestS.f k l0).bind fun t845 => ((laws_toChoiceS.f k l1).bind fun t848 => ((spec_ServeRoom.f k t845 t848).bind fun bt851 => ((laws_toGuestS.f k l0).bind fun t855 => ((laws_toChoiceS.f k l1).bind fun t858 => ((impl_ServeRoom.f k t855 t858).bind fun bt861 => ((laws_eqIntS.f k bt861.1 bt851.1).bind fun t865 => (if t865 = true then (laws_FnExactServeRoom.j0 k l0 l1 bt851.1 bt851.2 t855 t858 bt861.1 bt861.2 (bt861.2 != bt851.2)) else (laws_FnExactServeRoom.j0 k l0 l1 bt851.1 bt851.2 t855 t858 bt861.1 bt861.2 true))))))))))))
theorem laws_FnExactServeRoom.mono_l : ∀ k, (∀ y0 y1 y2 y3 y4 y5 y6 y7 y8, LeO (laws_FnExactServeRoom.j0 k y0 y1 y2 y3 y4 y5 y6 y7 y8) (laws_FnExactServeRoom.j0 (k + 1) y0 y1 y2 y3 y4 y5 y6 y7 y8)) ∧ (∀ y0 y1 y2 y3 y4 y5, LeO (laws_FnExactServeRoom.j1 k y0 y1 y2 y3 y4 y5) (laws_FnExactServeRoom.j1 (k + 1) y0 y1 y2 y3 y4 y5)) ∧ (∀ y0 y1 y2, LeO (laws_FnExactServeRoom.j2 k y0 y1 y2) (laws_FnExactServeRoom.j2 (k + 1) y0 y1 y2))
 | 0 => ⟨fun _ _ _ _ _ _ _ _ _ r h => by simp [laws_FnExactServeRoom.j0] at h, fun _ _ _ _ _ _ r h => by simp [laws_FnExactServeRoom.j1] at h, fun _ _ _ r h => by simp [laws_FnExactServeRoom.j2] at h⟩
 | k + 1 => by
  obtain ⟨ih0, ih1, ih2⟩ := laws_FnExactServeRoom.mono_l k
  refine ⟨?_, ?_, ?_⟩
  ·intro y0 y1 y2 y3 y4 y5 y6 y7 y8
   unfold laws_FnExactServeRoom.j0
   repeat' first
   | (with_reducible exact ih0 _ _ _ _ _ _ _ _ _)
   | (with_reducible exact ih1 _ _ _ _ _ _)
   | (with_reducible exact ih2 _ _ _)
   | (with_reducible exact impl_ServeRoom.mono _ _ _)
   | (with_reducible exact laws_eqChoiceS.mono _ _ _)
   | (with_reducible exact laws_eqGuestS.mono _ _ _)
   | (with_reducible exact laws_eqIntS.mono _ _ _)
   | (with_reducible exact laws_heldIntS.mono _ _ _)
   | (with_reducible exact laws_markChoiceS.mono _ _ _)
   | (with_reducible exact laws_markGuestS.mono _ _ _)
   | (with_reducible exact laws_markIntS.mono _ _ _)
   | (with_reducible exact laws_toChoiceS.mono _ _)
   | (with_reducible exact laws_toGuestS.mono _ _)
   | (with_reducible exact spec_ServeRoom.mono _ _ _)
   | (with_reducible exact LeO.refl _)
   | (with_reducible exact LeO.none _)
   | (with_reducible refine LeO.ite ?_ ?_)
   | (with_reducible refine LeO.bind ?_ (fun _ => ?_))
   | exact ih0 _ _ _ _ _ _ _ _ _
   | exact ih1 _ _ _ _ _ _
   | exact ih2 _ _ _
   | exact impl_ServeRoom.mono _ _ _
   | exact laws_eqChoiceS.mono _ _ _
   | exact laws_eqGuestS.mono _ _ _
   | exact laws_eqIntS.mono _ _ _
   | exact laws_heldIntS.mono _ _ _
   | exact laws_markChoiceS.mono _ _ _
   | exact laws_markGuestS.mono _ _ _
   | exact laws_markIntS.mono _ _ _
   | exact laws_toChoiceS.mono _ _
   | exact laws_toGuestS.mono _ _
   | exact spec_ServeRoom.mono _ _ _
   | exact LeO.none _
   | refine LeO.ite ?_ ?_
   | refine LeO.bind ?_ (fun _ => ?_)
  ·intro y0 y1 y2 y3 y4 y5
   unfold laws_FnExactServeRoom.j1
   repeat' first
   | (with_reducible exact ih0 _ _ _ _ _ _ _ _ _)
   | (with_reducible exact ih1 _ _ _ _ _ _)
   | (with_reducible exact ih2 _ _ _)
   | (with_reducible exact impl_ServeRoom.mono _ _ _)
   | (with_reducible exact laws_eqChoiceS.mono _ _ _)
   | (with_reducible exact laws_eqGuestS.mono _ _ _)
   | (with_reducible exact laws_eqIntS.mono _ _ _)
   | (with_reducible exact laws_heldIntS.mono _ _ _)
   | (with_reducible exact laws_markChoiceS.mono _ _ _)
   | (with_reducible exact laws_markGuestS.mono _ _ _)
   | (with_reducible exact laws_markIntS.mono _ _ _)
   | (with_reducible exact laws_toChoiceS.mono _ _)
   | (with_reducible exact laws_toGuestS.mono _ _)
   | (with_reducible exact spec_ServeRoom.mono _ _ _)
   | (with_reducible exact LeO.refl _)
   | (with_reducible exact LeO.none _)
   | (with_reducible refine LeO.ite ?_ ?_)
   | (with_reducible refine LeO.bind ?_ (fun _ => ?_))
   | exact ih0 _ _ _ _ _ _ _ _ _
   | exact ih1 _ _ _ _ _ _
   | exact ih2 _ _ _
   | exact impl_ServeRoom.mono _ _ _
   | exact laws_eqChoiceS.mono _ _ _
   | exact laws_eqGuestS.mono _ _ _
   | exact laws_eqIntS.mono _ _ _
   | exact laws_heldIntS.mono _ _ _
   | exact laws_markChoiceS.mono _ _ _
   | exact laws_markGuestS.mono _ _ _
   | exact laws_markIntS.mono _ _ _
   | exact laws_toChoiceS.mono _ _
   | exact laws_toGuestS.mono _ _
   | exact spec_ServeRoom.mono _ _ _
   | exact LeO.none _
   | refine LeO.ite ?_ ?_
   | refine LeO.bind ?_ (fun _ => ?_)
  ·intro y0 y1 y2
   unfold laws_FnExactServeRoom.j2
   repeat' first
   | (with_reducible exact ih0 _ _ _ _ _ _ _ _ _)
   | (with_reducible exact ih1 _ _ _ _ _ _)
   | (with_reducible exact ih2 _ _ _)
   | (with_reducible exact impl_ServeRoom.mono _ _ _)
   | (with_reducible exact laws_eqChoiceS.mono _ _ _)
   | (with_reducible exact laws_eqGuestS.mono _ _ _)
   | (with_reducible exact laws_eqIntS.mono _ _ _)
   | (with_reducible exact laws_heldIntS.mono _ _ _)
   | (with_reducible exact laws_markChoiceS.mono _ _ _)
   | (with_reducible exact laws_markGuestS.mono _ _ _)
   | (with_reducible exact laws_markIntS.mono _ _ _)
   | (with_reducible exact laws_toChoiceS.mono _ _)
   | (with_reducible exact laws_toGuestS.mono _ _)
   | (with_reducible exact spec_ServeRoom.mono _ _ _)
   | (with_reducible exact LeO.refl _)
   | (with_reducible exact LeO.none _)
   | (with_reducible refine LeO.ite ?_ ?_)
   | (with_reducible refine LeO.bind ?_ (fun _ => ?_))
   | exact ih0 _ _ _ _ _ _ _ _ _
   | exact ih1 _ _ _ _ _ _
   | exact ih2 _ _ _
   | exact impl_ServeRoom.mono _ _ _
   | exact laws_eqChoiceS.mono _ _ _
   | exact laws_eqGuestS.mono _ _ _
   | exact laws_eqIntS.mono _ _ _
   | exact laws_heldIntS.mono _ _ _
   | exact laws_markChoiceS.mono _ _ _
   | exact laws_markGuestS.mono _ _ _
   | exact laws_markIntS.mono _ _ _
   | exact laws_toChoiceS.mono _ _
   | exact laws_toGuestS.mono _ _
   | exact spec_ServeRoom.mono _ _ _
   | exact LeO.none _
   | refine LeO.ite ?_ ?_
   | refine LeO.bind ?_ (fun _ => ?_)
theorem laws_FnExactServeRoom.mono : ∀ a0 a1 k, LeO (laws_FnExactServeRoom.f k a0 a1) (laws_FnExactServeRoom.f (k + 1) a0 a1) := by
 intro a0 a1 k
 obtain ⟨ih0, ih1, ih2⟩ := laws_FnExactServeRoom.mono_l k
 unfold laws_FnExactServeRoom.f
 repeat' first
   | (with_reducible exact ih0 _ _ _ _ _ _ _ _ _)
   | (with_reducible exact ih1 _ _ _ _ _ _)
   | (with_reducible exact ih2 _ _ _)
   | (with_reducible exact impl_ServeRoom.mono _ _ _)
   | (with_reducible exact laws_eqChoiceS.mono _ _ _)
   | (with_reducible exact laws_eqGuestS.mono _ _ _)
   | (with_reducible exact laws_eqIntS.mono _ _ _)
   | (with_reducible exact laws_heldIntS.mono _ _ _)
   | (with_reducible exact laws_markChoiceS.mono _ _ _)
   | (with_reducible exact laws_markGuestS.mono _ _ _)
   | (with_reducible exact laws_markIntS.mono _ _ _)
   | (with_reducible exact laws_toChoiceS.mono _ _)
   | (with_reducible exact laws_toGuestS.mono _ _)
   | (with_reducible exact spec_ServeRoom.mono _ _ _)
   | (with_reducible exact LeO.refl _)
   | (with_reducible exact LeO.none _)
   | (with_reducible refine LeO.ite ?_ ?_)
   | (with_reducible refine LeO.bind ?_ (fun _ => ?_))
   | exact ih0 _ _ _ _ _ _ _ _ _
   | exact ih1 _ _ _ _ _ _
   | exact ih2 _ _ _
   | exact impl_ServeRoom.mono _ _ _
   | exact laws_eqChoiceS.mono _ _ _
   | exact laws_eqGuestS.mono _ _ _
   | exact laws_eqIntS.mono _ _ _
   | exact laws_heldIntS.mono _ _ _
   | exact laws_markChoiceS.mono _ _ _
   | exact laws_markGuestS.mono _ _ _
   | exact laws_markIntS.mono _ _ _
   | exact laws_toChoiceS.mono _ _
   | exact laws_toGuestS.mono _ _
   | exact spec_ServeRoom.mono _ _ _
   | exact LeO.none _
   | refine LeO.ite ?_ ?_
   | refine LeO.bind ?_ (fun _ => ?_)
set_option maxHeartbeats 8000000 in
set_option maxRecDepth 100000 in
theorem laws_FnExactServeRoom.calls (k : Nat) (A0 : Option Addr) (c0 : Nat) (l0 : List (S77)) (A1 : Option Addr) (c1 : Nat) (l1 : List (S63)) (r : Bool) (w : World) (hr0 : Kd.C k77 w A0 l0.length l0) (hc0 : l0.length ≤ c0) (hr1 : Kd.C k63 w A1 l1.length l1) (hc1 : l1.length ≤ c1) (h : laws_FnExactServeRoom.f k l0 l1 = some r) :
  Calls Try.prog 15 #[.slice A0 l0.length c0, .slice A1 l1.length c1] w fun e w' => e = .returned (.bool r) ∧ Below w.heap.size w w' := by
 have HR0 := Aside0.mk hr0
 have HC0 := Aside0.mk hc0
 clear hr0 hc0
 have HR1 := Aside0.mk hr1
 have HC1 := Aside0.mk hc1
 clear hr1 hc1
 have HB := Aside0.mk (Below.refl w.heap.size w)
 have H : ((laws_szGuestS.f l0 1048576).bind fun t843 => (if t843 < 0 then (some true) else ((laws_szChoiceS.f l1 t843).bind fun t844 => (if t844 < 0 then (some true) else ((laws_toGuestS.f k l0).bind fun t845 => ((laws_toChoiceS.f k l1).bind fun t848 => ((spec_ServeRoom.f k t845 t848).bind fun bt851 => ((laws_toGuestS.f k l0).bind fun t855 => ((laws_toChoiceS.f k l1).bind fun t858 => ((impl_ServeRoom.f k t855 t858).bind fun bt861 => ((laws_eqIntS.f k bt861.1 bt851.1).bind fun t865 => (if t865 = true then (laws_FnExactServeRoom.j0 k l0 l1 bt851.1 bt851.2 t855 t858 bt861.1 bt861.2 (bt861.2 != bt851.2)) else (laws_FnExactServeRoom.j0 k l0 l1 bt851.1 bt851.2 t855 t858 bt861.1 bt861.2 true))))))))))))) = some r := h
 clear h
 replace H := Option.bind_eq_some_iff.mp H
 obtain ⟨t843, A30, H⟩ := H
 replace H : (if t843 < 0 then (some true) else ((laws_szChoiceS.f l1 t843).bind fun t844 => (if t844 < 0 then (some true) else ((laws_toGuestS.f k l0).bind fun t845 => ((laws_toChoiceS.f k l1).bind fun t848 => ((spec_ServeRoom.f k t845 t848).bind fun bt851 => ((laws_toGuestS.f k l0).bind fun t855 => ((laws_toChoiceS.f k l1).bind fun t858 => ((impl_ServeRoom.f k t855 t858).bind fun bt861 => ((laws_eqIntS.f k bt861.1 bt851.1).bind fun t865 => (if t865 = true then (laws_FnExactServeRoom.j0 k l0 l1 bt851.1 bt851.2 t855 t858 bt861.1 bt861.2 (bt861.2 != bt851.2)) else (laws_FnExactServeRoom.j0 k l0 l1 bt851.1 bt851.2 t855 t858 bt861.1 bt861.2 true)))))))))))) = some r := H
 have A3 := Aside0.mk A30
 clear A30
 by_cases c4 : t843 < 0
 ·rw [if_pos c4] at H
  have c4b0 : decide (t843 < 0) = true := decide_eq_true c4
  clear c4
  obtain rfl := Option.some.inj H
  go_enter Try.func15, Try.ntmps15
  go_wp2_with (first | ((with_reducible refine gate_callee (f := 31) rfl ?_); refine goesL_ (some 19) rfl rfl Try.func31 pL rfl #[.slice A0 l0.length c0, .int .i64 1048576] rfl pM ?_; (with_reducible refine (laws_szGuestS.calls _ _ l0 1048576 t843 _ ?side1 ?side2 A3.out).mono ?_); (case side1 => exact pS (HR0.out)); (case side2 => exact HC0.out); rintro e w' ⟨rfl, ⟨nd, rfl⟩⟩; refine ⟨_, rfl, ?_⟩))
  go_ret
  exact ⟨pE, pB⟩
 ·rw [if_neg c4] at H
  have c4b0 : decide (t843 < 0) = false := decide_eq_false c4
  clear c4
  replace H := Option.bind_eq_some_iff.mp H
  obtain ⟨t844, A50, H⟩ := H
  replace H : (if t844 < 0 then (some true) else ((laws_toGuestS.f k l0).bind fun t845 => ((laws_toChoiceS.f k l1).bind fun t848 => ((spec_ServeRoom.f k t845 t848).bind fun bt851 => ((laws_toGuestS.f k l0).bind fun t855 => ((laws_toChoiceS.f k l1).bind fun t858 => ((impl_ServeRoom.f k t855 t858).bind fun bt861 => ((laws_eqIntS.f k bt861.1 bt851.1).bind fun t865 => (if t865 = true then (laws_FnExactServeRoom.j0 k l0 l1 bt851.1 bt851.2 t855 t858 bt861.1 bt861.2 (bt861.2 != bt851.2)) else (laws_FnExactServeRoom.j0 k l0 l1 bt851.1 bt851.2 t855 t858 bt861.1 bt861.2 true)))))))))) = some r := H
  have A5 := Aside0.mk A50
  clear A50
  by_cases c6 : t844 < 0
  ·rw [if_pos c6] at H
   have c6b0 : decide (t844 < 0) = true := decide_eq_true c6
   clear c6
   obtain rfl := Option.some.inj H
   go_enter Try.func15, Try.ntmps15
   go_wp2_with (first | ((with_reducible refine gate_callee (f := 31) rfl ?_); refine goesL_ (some 19) rfl rfl Try.func31 pL rfl #[.slice A0 l0.length c0, .int .i64 1048576] rfl pM ?_; (with_reducible refine (laws_szGuestS.calls _ _ l0 1048576 t843 _ ?side1 ?side2 A3.out).mono ?_); (case side1 => exact pS (HR0.out)); (case side2 => exact HC0.out); rintro e w' ⟨rfl, ⟨nd, rfl⟩⟩; refine ⟨_, rfl, ?_⟩) | ((with_reducible refine gate_callee (f := 16) rfl ?_); refine goesL_ (some 24) rfl rfl Try.func16 pL rfl #[.slice A1 l1.length c1, .int .i64 t843] rfl pM ?_; (with_reducible refine (laws_szChoiceS.calls _ _ l1 t843 t844 _ ?side1 ?side2 A5.out).mono ?_); (case side1 => exact pS (HR1.out)); (case side2 => exact HC1.out); rintro e w' ⟨rfl, ⟨nd, rfl⟩⟩; refine ⟨_, rfl, ?_⟩))
   go_ret
   exact ⟨pE, pB⟩
  ·rw [if_neg c6] at H
   have c6b0 : decide (t844 < 0) = false := decide_eq_false c6
   clear c6
   replace H := Option.bind_eq_some_iff.mp H
   obtain ⟨t845, A70, H⟩ := H
   replace H : ((laws_toChoiceS.f k l1).bind fun t848 => ((spec_ServeRoom.f k t845 t848).bind fun bt851 => ((laws_toGuestS.f k l0).bind fun t855 => ((laws_toChoiceS.f k l1).bind fun t858 => ((impl_ServeRoom.f k t855 t858).bind fun bt861 => ((laws_eqIntS.f k bt861.1 bt851.1).bind fun t865 => (if t865 = true then (laws_FnExactServeRoom.j0 k l0 l1 bt851.1 bt851.2 t855 t858 bt861.1 bt861.2 (bt861.2 != bt851.2)) else (laws_FnExactServeRoom.j0 k l0 l1 bt851.1 bt851.2 t855 t858 bt861.1 bt861.2 true)))))))) = some r := H
   have A7 := Aside0.mk A70
   clear A70
   replace H := Option.bind_eq_some_iff.mp H
   obtain ⟨t848, A80, H⟩ := H
   replace H : ((spec_ServeRoom.f k t845 t848).bind fun bt851 => ((laws_toGuestS.f k l0).bind fun t855 => ((laws_toChoiceS.f k l1).bind fun t858 => ((impl_ServeRoom.f k t855 t858).bind fun bt861 => ((laws_eqIntS.f k bt861.1 bt851.1).bind fun t865 => (if t865 = true then (laws_FnExactServeRoom.j0 k l0 l1 bt851.1 bt851.2 t855 t858 bt861.1 bt861.2 (bt861.2 != bt851.2)) else (laws_FnExactServeRoom.j0 k l0 l1 bt851.1 bt851.2 t855 t858 bt861.1 bt861.2 true))))))) = some r := H
   have A8 := Aside0.mk A80
   clear A80
   replace H := Option.bind_eq_some_iff.mp H
   obtain ⟨⟨t851, t852⟩, A90, H⟩ := H
   replace H : ((laws_toGuestS.f k l0).bind fun t855 => ((laws_toChoiceS.f k l1).bind fun t858 => ((impl_ServeRoom.f k t855 t858).bind fun bt861 => ((laws_eqIntS.f k bt861.1 t851).bind fun t865 => (if t865 = true then (laws_FnExactServeRoom.j0 k l0 l1 t851 t852 t855 t858 bt861.1 bt861.2 (bt861.2 != t852)) else (laws_FnExactServeRoom.j0 k l0 l1 t851 t852 t855 t858 bt861.1 bt861.2 true)))))) = some r := H
   have A9 := Aside0.mk A90
   clear A90
   replace H := Option.bind_eq_some_iff.mp H
   obtain ⟨t855, A100, H⟩ := H
   replace H : ((laws_toChoiceS.f k l1).bind fun t858 => ((impl_ServeRoom.f k t855 t858).bind fun bt861 => ((laws_eqIntS.f k bt861.1 t851).bind fun t865 => (if t865 = true then (laws_FnExactServeRoom.j0 k l0 l1 t851 t852 t855 t858 bt861.1 bt861.2 (bt861.2 != t852)) else (laws_FnExactServeRoom.j0 k l0 l1 t851 t852 t855 t858 bt861.1 bt861.2 true))))) = some r := H
   have A10 := Aside0.mk A100
   clear A100
   replace H := Option.bind_eq_some_iff.mp H
   obtain ⟨t858, A110, H⟩ := H
   replace H : ((impl_ServeRoom.f k t855 t858).bind fun bt861 => ((laws_eqIntS.f k bt861.1 t851).bind fun t865 => (if t865 = true then (laws_FnExactServeRoom.j0 k l0 l1 t851 t852 t855 t858 bt861.1 bt861.2 (bt861.2 != t852)) else (laws_FnExactServeRoom.j0 k l0 l1 t851 t852 t855 t858 bt861.1 bt861.2 true)))) = some r := H
   have A11 := Aside0.mk A110
   clear A110
   replace H := Option.bind_eq_some_iff.mp H
   obtain ⟨⟨t861, t862⟩, A120, H⟩ := H
   replace H : ((laws_eqIntS.f k t861 t851).bind fun t865 => (if t865 = true then (laws_FnExactServeRoom.j0 k l0 l1 t851 t852 t855 t858 t861 t862 (t862 != t852)) else (laws_FnExactServeRoom.j0 k l0 l1 t851 t852 t855 t858 t861 t862 true))) = some r := H
   have A12 := Aside0.mk A120
   clear A120
   have HC13 := Aside0.mk H
   clear H
   go_enter Try.func15, Try.ntmps15
   go_upto_region 12 with (first | ((with_reducible refine gate_callee (f := 31) rfl ?_); refine goesL_ (some 19) rfl rfl Try.func31 pL rfl #[.slice A0 l0.length c0, .int .i64 1048576] rfl pM ?_; (with_reducible refine (laws_szGuestS.calls _ _ l0 1048576 t843 _ ?side1 ?side2 A3.out).mono ?_); (case side1 => exact pS (HR0.out)); (case side2 => exact HC0.out); rintro e w' ⟨rfl, ⟨nd, rfl⟩⟩; refine ⟨_, rfl, ?_⟩) | ((with_reducible refine gate_callee (f := 16) rfl ?_); refine goesL_ (some 24) rfl rfl Try.func16 pL rfl #[.slice A1 l1.length c1, .int .i64 t843] rfl pM ?_; (with_reducible refine (laws_szChoiceS.calls _ _ l1 t843 t844 _ ?side1 ?side2 A5.out).mono ?_); (case side1 => exact pS (HR1.out)); (case side2 => exact HC1.out); rintro e w' ⟨rfl, ⟨nd, rfl⟩⟩; refine ⟨_, rfl, ?_⟩) | ((with_reducible refine gate_callee (f := 33) rfl ?_); refine goesL_ (some 29) rfl rfl Try.func33 pL rfl #[.slice A0 l0.length c0] rfl pM ?_; (with_reducible refine (laws_toGuestS.calls k _ _ l0 t845 _ ?side1 ?side2 A7.out).mono ?_); (case side1 => exact pS (HR0.out)); (case side2 => exact HC0.out); rintro e w14 ⟨v846, rfl, ho0, hb⟩; refine ⟨_, rfl, ?_⟩; have n0_ := Aside0.mk (Kd.R_lower ho0 (below_size pB)); have n1_ := Aside0.mk (below_step pB hb); clear HB; have HO847 := n0_; have HB := n1_; clear n0_ n1_; (try clear hb); (try clear hb2); (try clear hk); (try clear hi); (try clear ho0)) | ((with_reducible refine gate_callee (f := 18) rfl ?_); refine goesL_ (some 31) rfl rfl Try.func18 pL rfl #[.slice A1 l1.length c1] rfl pM ?_; (with_reducible refine (laws_toChoiceS.calls k _ _ l1 t848 _ ?side1 ?side2 A8.out).mono ?_); (case side1 => exact pS ((Kd.C_below HR1.out HB.out))); (case side2 => exact HC1.out); rintro e w15 ⟨v849, rfl, ho0, hb⟩; refine ⟨_, rfl, ?_⟩; have n0_ := Aside0.mk (Kd.R_below (pR HO847) hb); have n1_ := Aside0.mk (Kd.R_lower ho0 (below_size pB)); have n2_ := Aside0.mk (below_step pB hb); clear HO847; clear HB; have HO847 := n0_; have HO850 := n1_; have HB := n2_; clear n0_ n1_ n2_; (try clear hb); (try clear hb2); (try clear hk); (try clear hi); (try clear ho0); obtain ⟨Ao16, co16, eo16⟩ := Kd.R_slice HO847.out; subst eo16; obtain ⟨Ao17, co17, eo17⟩ := Kd.R_slice HO850.out; subst eo17) | ((with_reducible refine gate_callee (f := 44) rfl ?_); refine goesL_ (some 32) rfl rfl Try.func44 pL rfl #[.slice Ao16 t845.length co16, .slice Ao17 t848.length co17] rfl pM ?_; (with_reducible refine (spec_ServeRoom.calls k _ _ t845 _ _ t848 t851 t852 _ ?side1 ?side2 ?side3 ?side4 A9.out).mono ?_); (case side1 => exact pS ((Kd.R_reads' HO847.out).2.2)); (case side2 => exact (Kd.R_reads' HO847.out).2.1); (case side3 => exact pS ((Kd.R_reads' HO850.out).2.2)); (case side4 => exact (Kd.R_reads' HO850.out).2.1); rintro e w18 ⟨v853, rfl, ho0, hb⟩; refine ⟨_, rfl, ?_⟩; have n0_ := Aside0.mk (Kd.R_below (pR HO847) hb); have n1_ := Aside0.mk (Kd.R_below (pR HO850) hb); have n2_ := Aside0.mk (Kd.R_lower ho0 (below_size pB)); have n3_ := Aside0.mk (below_step pB hb); clear HO847; clear HO850; clear HB; have HO847 := n0_; have HO850 := n1_; have HO854 := n2_; have HB := n3_; clear n0_ n1_ n2_ n3_; (try clear hb); (try clear hb2); (try clear hk); (try clear hi); (try clear ho0)) | ((with_reducible refine gate_callee (f := 33) rfl ?_); refine goesL_ (some 36) rfl rfl Try.func33 pL rfl #[.slice A0 l0.length c0] rfl pM ?_; (with_reducible refine (laws_toGuestS.calls k _ _ l0 t855 _ ?side1 ?side2 A10.out).mono ?_); (case side1 => exact pS ((Kd.C_below HR0.out HB.out))); (case side2 => exact HC0.out); rintro e w19 ⟨v856, rfl, ho0, hb⟩; refine ⟨_, rfl, ?_⟩; have n0_ := Aside0.mk (Kd.R_elder' (pR HO847) (Kd.R_base ho0) hb); have n1_ := Aside0.mk (Kd.R_below (pR HO850) hb); have n2_ := Aside0.mk (Kd.R_below (pR HO854) hb); have n3_ := Aside0.mk (Kd.R_lower (Kd.R_new' ho0 (Kd.R_lt (pR HO847))) (below_size pB)); have n4_ := Aside0.mk (below_step pB hb); clear HO847; clear HO850; clear HO854; clear HB; have HO847 := n0_; have HO850 := n1_; have HO854 := n2_; have HO857 := n3_; have HB := n4_; clear n0_ n1_ n2_ n3_ n4_; (try clear hb); (try clear hb2); (try clear hk); (try clear hi); (try clear ho0)) | ((with_reducible refine gate_callee (f := 18) rfl ?_); refine goesL_ (some 38) rfl rfl Try.func18 pL rfl #[.slice A1 l1.length c1] rfl pM ?_; (with_reducible refine (laws_toChoiceS.calls k _ _ l1 t858 _ ?side1 ?side2 A11.out).mono ?_); (case side1 => exact pS ((Kd.C_below HR1.out HB.out))); (case side2 => exact HC1.out); rintro e w20 ⟨v859, rfl, ho0, hb⟩; refine ⟨_, rfl, ?_⟩; have n0_ := Aside0.mk (Kd.R_below (pR HO847) hb); have n1_ := Aside0.mk (Kd.R_elder' (pR HO850) (Kd.R_base ho0) hb); have n2_ := Aside0.mk (Kd.R_below (pR HO854) hb); have n3_ := Aside0.mk (Kd.R_below (pR HO857) hb); have n4_ := Aside0.mk (Kd.R_lower (Kd.R_new' ho0 (Kd.R_lt (pR HO850))) (below_size pB)); have n5_ := Aside0.mk (below_step pB hb); clear HO847; clear HO850; clear HO854; clear HO857; clear HB; have HO847 := n0_; have HO850 := n1_; have HO854 := n2_; have HO857 := n3_; have HO860 := n4_; have HB := n5_; clear n0_ n1_ n2_ n3_ n4_ n5_; (try clear hb); (try clear hb2); (try clear hk); (try clear hi); (try clear ho0); obtain ⟨Ao21, co21, eo21⟩ := Kd.R_slice HO857.out; subst eo21; obtain ⟨Ao22, co22, eo22⟩ := Kd.R_slice HO860.out; subst eo22) | ((with_reducible refine gate_callee (f := 38) rfl ?_); refine goesL_ (some 42) rfl rfl Try.func38 pL rfl #[.slice Ao21 t855.length co21, .slice Ao22 t858.length co22] rfl pM ?_; (with_reducible refine (impl_ServeRoom.calls k _ _ t855 _ _ t858 t861 t862 _ ?side1 ?side2 ?side3 ?side4 A12.out).mono ?_); (case side1 => exact pS ((Kd.R_reads' HO857.out).2.2)); (case side2 => exact (Kd.R_reads' HO857.out).2.1); (case side3 => exact pS ((Kd.R_reads' HO860.out).2.2)); (case side4 => exact (Kd.R_reads' HO860.out).2.1); rintro e w23 ⟨v863, rfl, ho0, hb⟩; refine ⟨_, rfl, ?_⟩; have n0_ := Aside0.mk (Kd.R_below (pR HO847) hb); have n1_ := Aside0.mk (Kd.R_below (pR HO850) hb); have n2_ := Aside0.mk (Kd.R_elder' (pR HO854) (Kd.R_base ho0) hb); have n3_ := Aside0.mk (Kd.R_below (pR HO857) hb); have n4_ := Aside0.mk (Kd.R_below (pR HO860) hb); have n5_ := Aside0.mk (Kd.R_lower (Kd.R_new' ho0 (Kd.R_lt (pR HO854))) (below_size pB)); have n6_ := Aside0.mk (below_step pB hb); clear HO847; clear HO850; clear HO854; clear HO857; clear HO860; clear HB; have HO847 := n0_; have HO850 := n1_; have HO854 := n2_; have HO857 := n3_; have HO860 := n4_; have HO864 := n5_; have HB := n6_; clear n0_ n1_ n2_ n3_ n4_ n5_ n6_; (try clear hb); (try clear hb2); (try clear hk); (try clear hi); (try clear ho0)))
   (try simp only [Act.put, List.setIfInBounds_toArray, List.set_cons_zero, List.set_cons_succ])
   go_cut [53] (fun v53 wc => ∃ (kq : Nat) (x53_12 : Bool), v53 = .bool x53_12 ∧ Aside0 (laws_FnExactServeRoom.j0 kq l0 l1 t851 t852 t855 t858 t861 t862 x53_12 = some r) ∧ Aside0 (kq ≤ k) ∧ Aside0 (Kd.R (Kd.int .i64) 3 wc w.heap.size (fun k_ => some k_ ≠ (v863 : Value).ownBlock) v853 t851) ∧ Aside0 (Kd.R k43 43 wc w.heap.size (fun _ => True) (.slice Ao21 t855.length co21) t855) ∧ Aside0 (Kd.R k32 32 wc w.heap.size (fun _ => True) (.slice Ao22 t858.length co22) t858) ∧ Aside0 (Kd.R (Kd.int .i64) 3 wc w.heap.size (fun k_ => some k_ ≠ (v853 : Value).ownBlock) v863 t861) ∧ Aside0 (Below w.heap.size w wc))
   case first =>
    have H := HC13.out
    clear HC13
    replace H := Option.bind_eq_some_iff.mp H
    obtain ⟨t865, A240, H⟩ := H
    replace H : (if t865 = true then (laws_FnExactServeRoom.j0 k l0 l1 t851 t852 t855 t858 t861 t862 (t862 != t852)) else (laws_FnExactServeRoom.j0 k l0 l1 t851 t852 t855 t858 t861 t862 true)) = some r := H
    have A24 := Aside0.mk A240
    clear A240
    by_cases c25 : t865 = true
    ·subst c25
     have H1 : (laws_FnExactServeRoom.j0 k l0 l1 t851 t852 t855 t858 t861 t862 (t862 != t852)) = some r := by rw [if_pos rfl] at H; exact H
     clear H
     have H := H1
     clear H1
     have H' := Aside0.mk H
     clear H
     obtain ⟨Ao26, co26, eo26⟩ := Kd.R_slice HO864.out
     subst eo26
     obtain ⟨Ao27, co27, eo27⟩ := Kd.R_slice HO854.out
     subst eo27
     go_wp2_with (first | ((with_reducible refine gate_callee (f := 37) rfl ?_); refine goesL_ (some 47) rfl rfl Try.func37 pL rfl #[.slice Ao26 t861.length co26, .slice Ao27 t851.length co27] rfl pM ?_; (with_reducible refine (laws_eqIntS.calls k _ _ t861 _ _ t851 true _ ?side1 ?side2 ?side3 ?side4 A24.out).mono ?_); (case side1 => exact pS ((Kd.R_reads' HO864.out).2.2)); (case side2 => exact (Kd.R_reads' HO864.out).2.1); (case side3 => exact pS ((Kd.R_reads' HO854.out).2.2)); (case side4 => exact (Kd.R_reads' HO854.out).2.1); rintro e w' ⟨rfl, ⟨nd, rfl⟩⟩; refine ⟨_, rfl, ?_⟩))
     go_meet
     case rel => exact ⟨_, ((t862 != t852)), pF, H', ⟨by first | omega | exact Nat.le_refl _⟩, ⟨by (with_reducible repeat (first | apply Kd.R_alloc | apply Kd.R_drewN | apply Kd.R_drew)); exact Kd.R_mono HO854.out (fun _ hk => hk.2)⟩, ⟨by (with_reducible repeat (first | apply Kd.R_alloc | apply Kd.R_drewN | apply Kd.R_drew)); exact Kd.R_mono HO857.out (fun _ hk => trivial)⟩, ⟨by (with_reducible repeat (first | apply Kd.R_alloc | apply Kd.R_drewN | apply Kd.R_drew)); exact Kd.R_mono HO860.out (fun _ hk => trivial)⟩, ⟨by (with_reducible repeat (first | apply Kd.R_alloc | apply Kd.R_drewN | apply Kd.R_drew)); exact Kd.R_mono HO864.out (fun _ hk => hk.2)⟩, ⟨pB⟩⟩
    ·replace c25 := Bool.eq_false_iff.mpr c25
     subst c25
     have H1 : (laws_FnExactServeRoom.j0 k l0 l1 t851 t852 t855 t858 t861 t862 true) = some r := by rw [if_neg (show ¬ (false = true) by decide)] at H; exact H
     clear H
     have H := H1
     clear H1
     have H' := Aside0.mk H
     clear H
     obtain ⟨Ao28, co28, eo28⟩ := Kd.R_slice HO864.out
     subst eo28
     obtain ⟨Ao29, co29, eo29⟩ := Kd.R_slice HO854.out
     subst eo29
     go_wp2_with (first | ((with_reducible refine gate_callee (f := 37) rfl ?_); refine goesL_ (some 47) rfl rfl Try.func37 pL rfl #[.slice Ao28 t861.length co28, .slice Ao29 t851.length co29] rfl pM ?_; (with_reducible refine (laws_eqIntS.calls k _ _ t861 _ _ t851 false _ ?side1 ?side2 ?side3 ?side4 A24.out).mono ?_); (case side1 => exact pS ((Kd.R_reads' HO864.out).2.2)); (case side2 => exact (Kd.R_reads' HO864.out).2.1); (case side3 => exact pS ((Kd.R_reads' HO854.out).2.2)); (case side4 => exact (Kd.R_reads' HO854.out).2.1); rintro e w' ⟨rfl, ⟨nd, rfl⟩⟩; refine ⟨_, rfl, ?_⟩))
     go_meet
     case rel => exact ⟨_, (true), pF, H', ⟨by first | omega | exact Nat.le_refl _⟩, ⟨by (with_reducible repeat (first | apply Kd.R_alloc | apply Kd.R_drewN | apply Kd.R_drew)); exact Kd.R_mono HO854.out (fun _ hk => hk.2)⟩, ⟨by (with_reducible repeat (first | apply Kd.R_alloc | apply Kd.R_drewN | apply Kd.R_drew)); exact Kd.R_mono HO857.out (fun _ hk => trivial)⟩, ⟨by (with_reducible repeat (first | apply Kd.R_alloc | apply Kd.R_drewN | apply Kd.R_drew)); exact Kd.R_mono HO860.out (fun _ hk => trivial)⟩, ⟨by (with_reducible repeat (first | apply Kd.R_alloc | apply Kd.R_drewN | apply Kd.R_drew)); exact Kd.R_mono HO864.out (fun _ hk => hk.2)⟩, ⟨pB⟩⟩
   case rest =>
    clear HC13
    try clear c1
    try clear c2
    try clear p2
    try clear c3
    try clear c4
    try clear c4b0
    try clear c6
    try clear c6b0
    try clear c15
    try clear c16
    try clear c18
    try clear c25
    obtain ⟨kq, x53_12, rfl, HA, HJ12, HO_6, HO_8, HO_9, HO_10, HB⟩ := hcut
    cases kq with
    | zero => exact absurd HA.out (by simp [laws_FnExactServeRoom.j0])
    | succ kj12 =>
     have H := HA.out
     clear HA
     simp only [laws_FnExactServeRoom.j0] at H
     by_cases c30 : x53_12 = true
     ·subst c30
      have H1 : (some false) = some r := by rw [if_pos rfl] at H; exact H
      clear H
      have H := H1
      clear H1
      obtain rfl := Option.some.inj H
      go_wp2
      go_ret
      exact ⟨pE, pB⟩
     ·replace c30 := Bool.eq_false_iff.mpr c30
      subst c30
      have H1 : ((laws_toGuestS.f kj12 l0).bind fun t866 => ((laws_eqGuestS.f kj12 t855 t866).bind fun t869 => (if t869 = true then ((laws_toChoiceS.f kj12 l1).bind fun t870 => ((laws_eqChoiceS.f kj12 t858 t870).bind fun t873 => (if t873 = true then ((laws_markGuestS.f kj12 t855 1).bind fun bt874 => ((laws_markChoiceS.f kj12 t858 bt874.1).bind fun bt876 => (if bt876.1 < 0 then (laws_FnExactServeRoom.j1 kj12 l0 l1 t851 t852 t861 true) else ((laws_eqIntS.f kj12 t861 t851).bind fun t878 => (if t878 = true then (laws_FnExactServeRoom.j1 kj12 l0 l1 t851 t852 t861 (t862 != t852)) else (laws_FnExactServeRoom.j1 kj12 l0 l1 t851 t852 t861 true)))))) else (some false)))) else (some false)))) = some r := by rw [if_neg (show ¬ (false = true) by decide)] at H; exact H
      clear H
      have H := H1
      clear H1
      replace H := Option.bind_eq_some_iff.mp H
      obtain ⟨t866, A310, H⟩ := H
      replace H : ((laws_eqGuestS.f kj12 t855 t866).bind fun t869 => (if t869 = true then ((laws_toChoiceS.f kj12 l1).bind fun t870 => ((laws_eqChoiceS.f kj12 t858 t870).bind fun t873 => (if t873 = true then ((laws_markGuestS.f kj12 t855 1).bind fun bt874 => ((laws_markChoiceS.f kj12 t858 bt874.1).bind fun bt876 => (if bt876.1 < 0 then (laws_FnExactServeRoom.j1 kj12 l0 l1 t851 t852 t861 true) else ((laws_eqIntS.f kj12 t861 t851).bind fun t878 => (if t878 = true then (laws_FnExactServeRoom.j1 kj12 l0 l1 t851 t852 t861 (t862 != t852)) else (laws_FnExactServeRoom.j1 kj12 l0 l1 t851 t852 t861 true)))))) else (some false)))) else (some false))) = some r := H
      have A31 := Aside0.mk A310
      clear A310
      replace H := Option.bind_eq_some_iff.mp H
      obtain ⟨t869, A320, H⟩ := H
      replace H : (if t869 = true then ((laws_toChoiceS.f kj12 l1).bind fun t870 => ((laws_eqChoiceS.f kj12 t858 t870).bind fun t873 => (if t873 = true then ((laws_markGuestS.f kj12 t855 1).bind fun bt874 => ((laws_markChoiceS.f kj12 t858 bt874.1).bind fun bt876 => (if bt876.1 < 0 then (laws_FnExactServeRoom.j1 kj12 l0 l1 t851 t852 t861 true) else ((laws_eqIntS.f kj12 t861 t851).bind fun t878 => (if t878 = true then (laws_FnExactServeRoom.j1 kj12 l0 l1 t851 t852 t861 (t862 != t852)) else (laws_FnExactServeRoom.j1 kj12 l0 l1 t851 t852 t861 true)))))) else (some false)))) else (some false)) = some r := H
      have A32 := Aside0.mk A320
      clear A320
      by_cases c33 : t869 = true
      ·subst c33
       have H1 : ((laws_toChoiceS.f kj12 l1).bind fun t870 => ((laws_eqChoiceS.f kj12 t858 t870).bind fun t873 => (if t873 = true then ((laws_markGuestS.f kj12 t855 1).bind fun bt874 => ((laws_markChoiceS.f kj12 t858 bt874.1).bind fun bt876 => (if bt876.1 < 0 then (laws_FnExactServeRoom.j1 kj12 l0 l1 t851 t852 t861 true) else ((laws_eqIntS.f kj12 t861 t851).bind fun t878 => (if t878 = true then (laws_FnExactServeRoom.j1 kj12 l0 l1 t851 t852 t861 (t862 != t852)) else (laws_FnExactServeRoom.j1 kj12 l0 l1 t851 t852 t861 true)))))) else (some false)))) = some r := by rw [if_pos rfl] at H; exact H
       clear H
       have H := H1
       clear H1
       replace H := Option.bind_eq_some_iff.mp H
       obtain ⟨t870, A340, H⟩ := H
       replace H : ((laws_eqChoiceS.f kj12 t858 t870).bind fun t873 => (if t873 = true then ((laws_markGuestS.f kj12 t855 1).bind fun bt874 => ((laws_markChoiceS.f kj12 t858 bt874.1).bind fun bt876 => (if bt876.1 < 0 then (laws_FnExactServeRoom.j1 kj12 l0 l1 t851 t852 t861 true) else ((laws_eqIntS.f kj12 t861 t851).bind fun t878 => (if t878 = true then (laws_FnExactServeRoom.j1 kj12 l0 l1 t851 t852 t861 (t862 != t852)) else (laws_FnExactServeRoom.j1 kj12 l0 l1 t851 t852 t861 true)))))) else (some false))) = some r := H
       have A34 := Aside0.mk A340
       clear A340
       replace H := Option.bind_eq_some_iff.mp H
       obtain ⟨t873, A350, H⟩ := H
       replace H : (if t873 = true then ((laws_markGuestS.f kj12 t855 1).bind fun bt874 => ((laws_markChoiceS.f kj12 t858 bt874.1).bind fun bt876 => (if bt876.1 < 0 then (laws_FnExactServeRoom.j1 kj12 l0 l1 t851 t852 t861 true) else ((laws_eqIntS.f kj12 t861 t851).bind fun t878 => (if t878 = true then (laws_FnExactServeRoom.j1 kj12 l0 l1 t851 t852 t861 (t862 != t852)) else (laws_FnExactServeRoom.j1 kj12 l0 l1 t851 t852 t861 true)))))) else (some false)) = some r := H
       have A35 := Aside0.mk A350
       clear A350
       by_cases c36 : t873 = true
       ·subst c36
        have H1 : ((laws_markGuestS.f kj12 t855 1).bind fun bt874 => ((laws_markChoiceS.f kj12 t858 bt874.1).bind fun bt876 => (if bt876.1 < 0 then (laws_FnExactServeRoom.j1 kj12 l0 l1 t851 t852 t861 true) else ((laws_eqIntS.f kj12 t861 t851).bind fun t878 => (if t878 = true then (laws_FnExactServeRoom.j1 kj12 l0 l1 t851 t852 t861 (t862 != t852)) else (laws_FnExactServeRoom.j1 kj12 l0 l1 t851 t852 t861 true)))))) = some r := by rw [if_pos rfl] at H; exact H
        clear H
        have H := H1
        clear H1
        replace H := Option.bind_eq_some_iff.mp H
        obtain ⟨⟨t874, t875⟩, A370, H⟩ := H
        replace H : ((laws_markChoiceS.f kj12 t858 t874).bind fun bt876 => (if bt876.1 < 0 then (laws_FnExactServeRoom.j1 kj12 l0 l1 t851 t852 t861 true) else ((laws_eqIntS.f kj12 t861 t851).bind fun t878 => (if t878 = true then (laws_FnExactServeRoom.j1 kj12 l0 l1 t851 t852 t861 (t862 != t852)) else (laws_FnExactServeRoom.j1 kj12 l0 l1 t851 t852 t861 true))))) = some r := H
        have A37 := Aside0.mk A370
        clear A370
        replace H := Option.bind_eq_some_iff.mp H
        obtain ⟨⟨t876, t877⟩, A380, H⟩ := H
        replace H : (if t876 < 0 then (laws_FnExactServeRoom.j1 kj12 l0 l1 t851 t852 t861 true) else ((laws_eqIntS.f kj12 t861 t851).bind fun t878 => (if t878 = true then (laws_FnExactServeRoom.j1 kj12 l0 l1 t851 t852 t861 (t862 != t852)) else (laws_FnExactServeRoom.j1 kj12 l0 l1 t851 t852 t861 true)))) = some r := H
        have A38 := Aside0.mk A380
        clear A380
        have HC39 := Aside0.mk H
        clear H
        go_upto_region 21 with (first | ((with_reducible refine gate_callee (f := 33) rfl ?_); refine goesL_ (some 56) rfl rfl Try.func33 pL rfl #[.slice A0 l0.length c0] rfl pM ?_; (with_reducible refine (laws_toGuestS.calls kj12 _ _ l0 t866 _ ?side1 ?side2 A31.out).mono ?_); (case side1 => exact pS ((Kd.C_below HR0.out HB.out))); (case side2 => exact HC0.out); rintro e w40 ⟨v867, rfl, ho0, hb⟩; refine ⟨_, rfl, ?_⟩; have n0_ := Aside0.mk (Kd.R_below (pR HO_6) hb); have n1_ := Aside0.mk (Kd.R_elder' (pR HO_8) (Kd.R_base ho0) hb); have n2_ := Aside0.mk (Kd.R_below (pR HO_9) hb); have n3_ := Aside0.mk (Kd.R_below (pR HO_10) hb); have n4_ := Aside0.mk (Kd.R_lower (Kd.R_new' ho0 (Kd.R_lt (pR HO_8))) (below_size pB)); have n5_ := Aside0.mk (below_step pB hb); clear HO_6; clear HO_8; clear HO_9; clear HO_10; clear HB; have HO_6 := n0_; have HO_8 := n1_; have HO_9 := n2_; have HO_10 := n3_; have HO868 := n4_; have HB := n5_; clear n0_ n1_ n2_ n3_ n4_ n5_; (try clear hb); (try clear hb2); (try clear hk); (try clear hi); (try clear ho0); obtain ⟨Ao41, co41, eo41⟩ := Kd.R_slice HO868.out; subst eo41) | ((with_reducible refine gate_callee (f := 36) rfl ?_); refine goesL_ (some 57) rfl rfl Try.func36 pL rfl #[.slice Ao21 t855.length co21, .slice Ao41 t866.length co41] rfl pM ?_; (with_reducible refine (laws_eqGuestS.calls kj12 _ _ t855 _ _ t866 true _ ?side1 ?side2 ?side3 ?side4 A32.out).mono ?_); (case side1 => exact pS ((Kd.R_reads' HO_8.out).2.2)); (case side2 => exact (Kd.R_reads' HO_8.out).2.1); (case side3 => exact pS ((Kd.R_reads' HO868.out).2.2)); (case side4 => exact (Kd.R_reads' HO868.out).2.1); rintro e w42 ⟨rfl, hb⟩; refine ⟨_, rfl, ?_⟩; have n0_ := Aside0.mk (Kd.R_below (pR HO_6) hb); have n1_ := Aside0.mk (Kd.R_below (pR HO_8) hb); have n2_ := Aside0.mk (Kd.R_below (pR HO_9) hb); have n3_ := Aside0.mk (Kd.R_below (pR HO_10) hb); have n4_ := Aside0.mk (Kd.R_below (pR HO868) hb); have n5_ := Aside0.mk (below_step pB hb); clear HO_6; clear HO_8; clear HO_9; clear HO_10; clear HO868; clear HB; have HO_6 := n0_; have HO_8 := n1_; have HO_9 := n2_; have HO_10 := n3_; have HO868 := n4_; have HB := n5_; clear n0_ n1_ n2_ n3_ n4_ n5_; (try clear hb); (try clear hb2); (try clear hk); (try clear hi)) | ((with_reducible refine gate_callee (f := 18) rfl ?_); refine goesL_ (some 61) rfl rfl Try.func18 pL rfl #[.slice A1 l1.length c1] rfl pM ?_; (with_reducible refine (laws_toChoiceS.calls kj12 _ _ l1 t870 _ ?side1 ?side2 A34.out).mono ?_); (case side1 => exact pS ((Kd.C_below HR1.out HB.out))); (case side2 => exact HC1.out); rintro e w43 ⟨v871, rfl, ho0, hb⟩; refine ⟨_, rfl, ?_⟩; have n0_ := Aside0.mk (Kd.R_below (pR HO_6) hb); have n1_ := Aside0.mk (Kd.R_below (pR HO_8) hb); have n2_ := Aside0.mk (Kd.R_elder' (pR HO_9) (Kd.R_base ho0) hb); have n3_ := Aside0.mk (Kd.R_below (pR HO_10) hb); have n4_ := Aside0.mk (Kd.R_below (pR HO868) hb); have n5_ := Aside0.mk (Kd.R_lower (Kd.R_new' ho0 (Kd.R_lt (pR HO_9))) (below_size pB)); have n6_ := Aside0.mk (below_step pB hb); clear HO_6; clear HO_8; clear HO_9; clear HO_10; clear HO868; clear HB; have HO_6 := n0_; have HO_8 := n1_; have HO_9 := n2_; have HO_10 := n3_; have HO868 := n4_; have HO872 := n5_; have HB := n6_; clear n0_ n1_ n2_ n3_ n4_ n5_ n6_; (try clear hb); (try clear hb2); (try clear hk); (try clear hi); (try clear ho0); obtain ⟨Ao44, co44, eo44⟩ := Kd.R_slice HO872.out; subst eo44) | ((with_reducible refine gate_callee (f := 20) rfl ?_); refine goesL_ (some 62) rfl rfl Try.func20 pL rfl #[.slice Ao22 t858.length co22, .slice Ao44 t870.length co44] rfl pM ?_; (with_reducible refine (laws_eqChoiceS.calls kj12 _ _ t858 _ _ t870 true _ ?side1 ?side2 ?side3 ?side4 A35.out).mono ?_); (case side1 => exact pS ((Kd.R_reads' HO_9.out).2.2)); (case side2 => exact (Kd.R_reads' HO_9.out).2.1); (case side3 => exact pS ((Kd.R_reads' HO872.out).2.2)); (case side4 => exact (Kd.R_reads' HO872.out).2.1); rintro e w45 ⟨rfl, hb⟩; refine ⟨_, rfl, ?_⟩; have n0_ := Aside0.mk (Kd.R_below (pR HO_6) hb); have n1_ := Aside0.mk (Kd.R_below (pR HO_8) hb); have n2_ := Aside0.mk (Kd.R_below (pR HO_9) hb); have n3_ := Aside0.mk (Kd.R_below (pR HO_10) hb); have n4_ := Aside0.mk (Kd.R_below (pR HO868) hb); have n5_ := Aside0.mk (Kd.R_below (pR HO872) hb); have n6_ := Aside0.mk (below_step pB hb); clear HO_6; clear HO_8; clear HO_9; clear HO_10; clear HO868; clear HO872; clear HB; have HO_6 := n0_; have HO_8 := n1_; have HO_9 := n2_; have HO_10 := n3_; have HO868 := n4_; have HO872 := n5_; have HB := n6_; clear n0_ n1_ n2_ n3_ n4_ n5_ n6_; (try clear hb); (try clear hb2); (try clear hk); (try clear hi)) | ((with_reducible refine gate_callee (f := 39) rfl ?_); refine goesL_ (some 66) rfl rfl Try.func39 pL rfl #[.slice Ao21 t855.length co21, .int .i64 1] rfl pM ?_; (with_reducible refine (laws_markGuestS.calls kj12 (fun k_ => some k_ = (.slice Ao21 t855.length co21 : Value).ownBlock) (.slice Ao21 t855.length co21) t855 1 t874 t875 w _ ?side1 ?side2 A37.out).mono ?_); (case side1 => exact pB); (case side2 => exact Kd.R_tight rfl HO_8.out); rintro e w46 ⟨rfl, hy0, hb, hkp⟩; refine ⟨_, rfl, ?_⟩; have n0_ := Aside0.mk (Kd.R_mono (ok' := fun k_ => some k_ ≠ (v863 : Value).ownBlock) (Kd.R_keptB ((Kd.R_apart' HO_6.out (Kd.R_typed HO_8.out) (by decide))) hkp (fun k_ hk_ hs_ => (hk_.2) hs_)) (fun k_ hk_ => hk_.1.1)); have n1_ := Aside0.mk (Kd.R_reok rfl hy0 (fun k_ e_ => HO_8.out.1 k_ e_)); have n2_ := Aside0.mk (Kd.R_mono (ok' := fun k_ => some k_ ≠ (.slice Ao44 t870.length co44 : Value).ownBlock) (Kd.R_keptB ((Kd.R_apart' HO_9.out (Kd.R_typed HO_8.out) (by decide))) hkp (fun k_ hk_ hs_ => (hk_.2) hs_)) (fun k_ hk_ => hk_.1.1.2)); have n3_ := Aside0.mk (Kd.R_mono (ok' := fun k_ => some k_ ≠ (v853 : Value).ownBlock) (Kd.R_keptB ((Kd.R_apart' HO_10.out (Kd.R_typed HO_8.out) (by decide))) hkp (fun k_ hk_ hs_ => (hk_.2) hs_)) (fun k_ hk_ => hk_.1.1)); have n4_ := Aside0.mk (Kd.R_mono (ok' := fun k_ => some k_ ≠ (.slice Ao21 t855.length co21 : Value).ownBlock) (Kd.R_keptB (HO868.out) hkp (fun k_ hk_ hs_ => (hk_.2) hs_)) (fun k_ hk_ => hk_.1.2)); have n5_ := Aside0.mk (Kd.R_mono (ok' := fun k_ => some k_ ≠ (.slice Ao22 t858.length co22 : Value).ownBlock) (Kd.R_keptB ((Kd.R_apart' HO872.out (Kd.R_typed HO_8.out) (by decide))) hkp (fun k_ hk_ hs_ => (hk_.2) hs_)) (fun k_ hk_ => hk_.1.1.2)); have n6_ := Aside0.mk (hb); clear HO_6; clear HO_8; clear HO_9; clear HO_10; clear HO868; clear HO872; clear HB; have HO_6 := n0_; have HO_8 := n1_; have HO_9 := n2_; have HO_10 := n3_; have HO868 := n4_; have HO872 := n5_; have HB := n6_; clear n0_ n1_ n2_ n3_ n4_ n5_ n6_; (try clear hb); (try clear hkp); (try clear hy0)) | ((with_reducible refine gate_callee (f := 40) rfl ?_); refine goesL_ (some 69) rfl rfl Try.func40 pL rfl #[.slice Ao22 t858.length co22, .int .i64 t874] rfl pM ?_; (with_reducible refine (laws_markChoiceS.calls kj12 (fun k_ => some k_ = (.slice Ao22 t858.length co22 : Value).ownBlock) (.slice Ao22 t858.length co22) t858 t874 t876 t877 w _ ?side1 ?side2 A38.out).mono ?_); (case side1 => exact pB); (case side2 => exact Kd.R_tight rfl HO_9.out); rintro e w47 ⟨rfl, hy0, hb, hkp⟩; refine ⟨_, rfl, ?_⟩; have n0_ := Aside0.mk (Kd.R_mono (ok' := fun k_ => some k_ ≠ (v863 : Value).ownBlock) (Kd.R_keptB ((Kd.R_apart' HO_6.out (Kd.R_typed HO_9.out) (by decide))) hkp (fun k_ hk_ hs_ => (hk_.2) hs_)) (fun k_ hk_ => hk_.1.1)); have n1_ := Aside0.mk (Kd.R_mono (ok' := fun k_ => some k_ ≠ (.slice Ao41 t866.length co41 : Value).ownBlock) (Kd.R_keptB ((Kd.R_apart' HO_8.out (Kd.R_typed HO_9.out) (by decide))) hkp (fun k_ hk_ hs_ => (hk_.2) hs_)) (fun k_ hk_ => hk_.1.1.2)); have n2_ := Aside0.mk (Kd.R_reok rfl hy0 (fun k_ e_ => HO_9.out.1 k_ e_)); have n3_ := Aside0.mk (Kd.R_mono (ok' := fun k_ => some k_ ≠ (v853 : Value).ownBlock) (Kd.R_keptB ((Kd.R_apart' HO_10.out (Kd.R_typed HO_9.out) (by decide))) hkp (fun k_ hk_ hs_ => (hk_.2) hs_)) (fun k_ hk_ => hk_.1.1)); have n4_ := Aside0.mk (Kd.R_mono (ok' := fun k_ => some k_ ≠ (.slice Ao21 t855.length co21 : Value).ownBlock) (Kd.R_keptB ((Kd.R_apart' HO868.out (Kd.R_typed HO_9.out) (by decide))) hkp (fun k_ hk_ hs_ => (hk_.2) hs_)) (fun k_ hk_ => hk_.1.1)); have n5_ := Aside0.mk (Kd.R_mono (ok' := fun k_ => some k_ ≠ (.slice Ao22 t858.length co22 : Value).ownBlock) (Kd.R_keptB (HO872.out) hkp (fun k_ hk_ hs_ => (hk_) hs_)) (fun k_ hk_ => hk_.1)); have n6_ := Aside0.mk (hb); clear HO_6; clear HO_8; clear HO_9; clear HO_10; clear HO868; clear HO872; clear HB; have HO_6 := n0_; have HO_8 := n1_; have HO_9 := n2_; have HO_10 := n3_; have HO868 := n4_; have HO872 := n5_; have HB := n6_; clear n0_ n1_ n2_ n3_ n4_ n5_ n6_; (try clear hb); (try clear hkp); (try clear hy0)))
        (try simp only [Act.put, List.setIfInBounds_toArray, List.set_cons_zero, List.set_cons_succ])
        go_cut [82] (fun v82 wc => ∃ (kq : Nat) (x82_38 : Bool), v82 = .bool x82_38 ∧ Aside0 (laws_FnExactServeRoom.j1 kq l0 l1 t851 t852 t861 x82_38 = some r) ∧ Aside0 (kq ≤ kj12) ∧ Aside0 (Kd.R (Kd.int .i64) 3 wc w.heap.size (fun k_ => some k_ ≠ (v863 : Value).ownBlock) v853 t851) ∧ Aside0 (Kd.R (Kd.int .i64) 3 wc w.heap.size (fun k_ => some k_ ≠ (v853 : Value).ownBlock) v863 t861) ∧ Aside0 (Below w.heap.size w wc))
        case first =>
         have H := HC39.out
         clear HC39
         by_cases c48 : t876 < 0
         ·rw [if_pos c48] at H
          have c48b0 : decide (t876 < 0) = true := decide_eq_true c48
          clear c48
          (first | rw [c48b0] | (simp only [i64_w, i32_w]; rw [c48b0]) | skip)
          have H' := Aside0.mk H
          clear H
          go_wp2
          go_meet
          case rel => exact ⟨_, (true), pF, H', ⟨by have := HJ12.out; first | omega | exact Nat.le_refl _⟩, ⟨pR HO_6⟩, ⟨pR HO_10⟩, ⟨pB⟩⟩
         ·rw [if_neg c48] at H
          have c48b0 : decide (t876 < 0) = false := decide_eq_false c48
          clear c48
          (first | rw [c48b0] | (simp only [i64_w, i32_w]; rw [c48b0]) | skip)
          replace H := Option.bind_eq_some_iff.mp H
          obtain ⟨t878, A490, H⟩ := H
          replace H : (if t878 = true then (laws_FnExactServeRoom.j1 kj12 l0 l1 t851 t852 t861 (t862 != t852)) else (laws_FnExactServeRoom.j1 kj12 l0 l1 t851 t852 t861 true)) = some r := H
          have A49 := Aside0.mk A490
          clear A490
          by_cases c50 : t878 = true
          ·subst c50
           have H1 : (laws_FnExactServeRoom.j1 kj12 l0 l1 t851 t852 t861 (t862 != t852)) = some r := by rw [if_pos rfl] at H; exact H
           clear H
           have H := H1
           clear H1
           have H' := Aside0.mk H
           clear H
           obtain ⟨Ao51, co51, eo51⟩ := Kd.R_slice HO_10.out
           subst eo51
           obtain ⟨Ao52, co52, eo52⟩ := Kd.R_slice HO_6.out
           subst eo52
           go_wp2_with (first | (go_at_call 37; (with_reducible refine (laws_eqIntS.calls kj12 _ _ t861 _ _ t851 true _ ?side1 ?side2 ?side3 ?side4 A49.out).mono ?_); (case side1 => exact pS ((Kd.R_reads' HO_10.out).2.2)); (case side2 => exact (Kd.R_reads' HO_10.out).2.1); (case side3 => exact pS ((Kd.R_reads' HO_6.out).2.2)); (case side4 => exact (Kd.R_reads' HO_6.out).2.1); rintro e w' ⟨rfl, ⟨nd, rfl⟩⟩))
           go_meet
           case rel => exact ⟨_, ((t862 != t852)), pF, H', ⟨by have := HJ12.out; first | omega | exact Nat.le_refl _⟩, ⟨pR HO_6⟩, ⟨pR HO_10⟩, ⟨pB⟩⟩
          ·replace c50 := Bool.eq_false_iff.mpr c50
           subst c50
           have H1 : (laws_FnExactServeRoom.j1 kj12 l0 l1 t851 t852 t861 true) = some r := by rw [if_neg (show ¬ (false = true) by decide)] at H; exact H
           clear H
           have H := H1
           clear H1
           have H' := Aside0.mk H
           clear H
           obtain ⟨Ao53, co53, eo53⟩ := Kd.R_slice HO_10.out
           subst eo53
           obtain ⟨Ao54, co54, eo54⟩ := Kd.R_slice HO_6.out
           subst eo54
           go_wp2_with (first | (go_at_call 37; (with_reducible refine (laws_eqIntS.calls kj12 _ _ t861 _ _ t851 false _ ?side1 ?side2 ?side3 ?side4 A49.out).mono ?_); (case side1 => exact pS ((Kd.R_reads' HO_10.out).2.2)); (case side2 => exact (Kd.R_reads' HO_10.out).2.1); (case side3 => exact pS ((Kd.R_reads' HO_6.out).2.2)); (case side4 => exact (Kd.R_reads' HO_6.out).2.1); rintro e w' ⟨rfl, ⟨nd, rfl⟩⟩))
           go_meet
           case rel => exact ⟨_, (true), pF, H', ⟨by have := HJ12.out; first | omega | exact Nat.le_refl _⟩, ⟨pR HO_6⟩, ⟨pR HO_10⟩, ⟨pB⟩⟩
        case rest =>
         clear HC39
         try clear c1
         try clear c2
         try clear p2
         try clear c3
         try clear c4
         try clear c4b0
         try clear c5
         try clear c6
         try clear c6b0
         try clear c15
         try clear c16
         try clear c18
         try clear c20
         try clear c25
         try clear c30
         try clear c31
         try clear c33
         try clear c36
         try clear c37
         try clear c38
         try clear c39
         try clear c40
         try clear c44
         try clear c48
         try clear c48b0
         try clear c50
         try clear p2
         obtain ⟨kq, x82_38, rfl, HA, HJ38, HO_6, HO_10, HB⟩ := hcut
         cases kq with
         | zero => exact absurd HA.out (by simp [laws_FnExactServeRoom.j1])
         | succ kj38 =>
          have H := HA.out
          clear HA
          simp only [laws_FnExactServeRoom.j1] at H
          by_cases c55 : x82_38 = true
          ·subst c55
           have H1 : (some false) = some r := by rw [if_pos rfl] at H; exact H
           clear H
           have H := H1
           clear H1
           obtain rfl := Option.some.inj H
           go_wp2
           go_ret
           exact ⟨pE, pB⟩
          ·replace c55 := Bool.eq_false_iff.mpr c55
           subst c55
           have H1 : ((laws_markIntS.f kj38 t861 1).bind fun bt879 => ((laws_heldIntS.f kj38 bt879.2 1).bind fun t881 => (if t881 < 0 then (some false) else (if t881 = bt879.1 then ((laws_toGuestS.f kj38 l0).bind fun t882 => ((laws_toChoiceS.f kj38 l1).bind fun t885 => ((impl_ServeRoom.f kj38 t882 t885).bind fun bt888 => ((laws_eqIntS.f kj38 bt888.1 t851).bind fun t892 => (if t892 = true then (laws_FnExactServeRoom.j2 kj38 bt879.2 bt879.1 (bt888.2 != t852)) else (laws_FnExactServeRoom.j2 kj38 bt879.2 bt879.1 true)))))) else (some false))))) = some r := by rw [if_neg (show ¬ (false = true) by decide)] at H; exact H
           clear H
           have H := H1
           clear H1
           replace H := Option.bind_eq_some_iff.mp H
           obtain ⟨⟨t879, t880⟩, A560, H⟩ := H
           replace H : ((laws_heldIntS.f kj38 t880 1).bind fun t881 => (if t881 < 0 then (some false) else (if t881 = t879 then ((laws_toGuestS.f kj38 l0).bind fun t882 => ((laws_toChoiceS.f kj38 l1).bind fun t885 => ((impl_ServeRoom.f kj38 t882 t885).bind fun bt888 => ((laws_eqIntS.f kj38 bt888.1 t851).bind fun t892 => (if t892 = true then (laws_FnExactServeRoom.j2 kj38 t880 t879 (bt888.2 != t852)) else (laws_FnExactServeRoom.j2 kj38 t880 t879 true)))))) else (some false)))) = some r := H
           have A56 := Aside0.mk A560
           clear A560
           replace H := Option.bind_eq_some_iff.mp H
           obtain ⟨t881, A570, H⟩ := H
           replace H : (if t881 < 0 then (some false) else (if t881 = t879 then ((laws_toGuestS.f kj38 l0).bind fun t882 => ((laws_toChoiceS.f kj38 l1).bind fun t885 => ((impl_ServeRoom.f kj38 t882 t885).bind fun bt888 => ((laws_eqIntS.f kj38 bt888.1 t851).bind fun t892 => (if t892 = true then (laws_FnExactServeRoom.j2 kj38 t880 t879 (bt888.2 != t852)) else (laws_FnExactServeRoom.j2 kj38 t880 t879 true)))))) else (some false))) = some r := H
           have A57 := Aside0.mk A570
           clear A570
           by_cases c58 : t881 < 0
           ·rw [if_pos c58] at H
            have c58b0 : decide (t881 < 0) = true := decide_eq_true c58
            clear c58
            obtain rfl := Option.some.inj H
            obtain ⟨Ao59, co59, eo59⟩ := Kd.R_slice HO_10.out
            subst eo59
            go_wp2_with (first | ((with_reducible refine gate_callee (f := 41) rfl ?_); refine goesL_ (some 85) rfl rfl Try.func41 pL rfl #[.slice Ao59 t861.length co59, .int .i64 1] rfl pM ?_; (with_reducible refine (laws_markIntS.calls kj38 (fun k_ => some k_ = (.slice Ao59 t861.length co59 : Value).ownBlock) (.slice Ao59 t861.length co59) t861 1 t879 t880 w _ ?side1 ?side2 A56.out).mono ?_); (case side1 => exact pB); (case side2 => exact Kd.R_tight rfl HO_10.out); rintro e w60 ⟨rfl, hy0, hb, hkp⟩; refine ⟨_, rfl, ?_⟩; have n0_ := Aside0.mk (Kd.R_mono (ok' := fun k_ => some k_ ≠ (.slice Ao59 t861.length co59 : Value).ownBlock) (Kd.R_keptB (HO_6.out) hkp (fun k_ hk_ hs_ => (hk_) hs_)) (fun k_ hk_ => hk_.1)); have n1_ := Aside0.mk (Kd.R_reok rfl hy0 (fun k_ e_ => HO_10.out.1 k_ e_)); have n2_ := Aside0.mk (hb); clear HO_6; clear HO_10; clear HB; have HO_6 := n0_; have HO_10 := n1_; have HB := n2_; clear n0_ n1_ n2_; (try clear hb); (try clear hkp); (try clear hy0)) | ((with_reducible refine gate_callee (f := 42) rfl ?_); refine goesL_ (some 88) rfl rfl Try.func42 pL rfl #[.slice Ao59 t880.length co59, .int .i64 1] rfl (by (try simp only [List.map_toArray, List.map_cons, List.map_nil]); first | done | (rw [show t880.length = t861.length from (Kd.R_reads' HO_10.out).1.symm] <;> rfl) | rfl | (simp only [List.length_drop, List.length_take]; rfl)) ?_; (with_reducible refine (laws_heldIntS.calls kj38 _ _ t880 1 t881 _ ?side1 ?side2 A57.out).mono ?_); (case side1 => exact pS ((Kd.R_reads' HO_10.out).2.2)); (case side2 => rw [show t880.length = t861.length from (Kd.R_reads' HO_10.out).1.symm]; exact (Kd.R_reads' HO_10.out).2.1); rintro e w' ⟨rfl, ⟨nd, rfl⟩⟩; refine ⟨_, rfl, ?_⟩))
            go_ret
            exact ⟨pE, pB⟩
           ·rw [if_neg c58] at H
            have c58b0 : decide (t881 < 0) = false := decide_eq_false c58
            clear c58
            by_cases c61 : t881 = t879
            ·rw [if_pos c61] at H
             have c61b0 : (t881 == t879) = true := beq_iff_eq.mpr c61
             have c61b1 : (t881 != t879) = false := bne_eq_false_iff_eq.mpr c61
             clear c61
             replace H := Option.bind_eq_some_iff.mp H
             obtain ⟨t882, A620, H⟩ := H
             replace H : ((laws_toChoiceS.f kj38 l1).bind fun t885 => ((impl_ServeRoom.f kj38 t882 t885).bind fun bt888 => ((laws_eqIntS.f kj38 bt888.1 t851).bind fun t892 => (if t892 = true then (laws_FnExactServeRoom.j2 kj38 t880 t879 (bt888.2 != t852)) else (laws_FnExactServeRoom.j2 kj38 t880 t879 true))))) = some r := H
             have A62 := Aside0.mk A620
             clear A620
             replace H := Option.bind_eq_some_iff.mp H
             obtain ⟨t885, A630, H⟩ := H
             replace H : ((impl_ServeRoom.f kj38 t882 t885).bind fun bt888 => ((laws_eqIntS.f kj38 bt888.1 t851).bind fun t892 => (if t892 = true then (laws_FnExactServeRoom.j2 kj38 t880 t879 (bt888.2 != t852)) else (laws_FnExactServeRoom.j2 kj38 t880 t879 true)))) = some r := H
             have A63 := Aside0.mk A630
             clear A630
             replace H := Option.bind_eq_some_iff.mp H
             obtain ⟨⟨t888, t889⟩, A640, H⟩ := H
             replace H : ((laws_eqIntS.f kj38 t888 t851).bind fun t892 => (if t892 = true then (laws_FnExactServeRoom.j2 kj38 t880 t879 (t889 != t852)) else (laws_FnExactServeRoom.j2 kj38 t880 t879 true))) = some r := H
             have A64 := Aside0.mk A640
             clear A640
             have HC65 := Aside0.mk H
             clear H
             obtain ⟨Ao66, co66, eo66⟩ := Kd.R_slice HO_10.out
             subst eo66
             go_upto_region 32 with (first | ((with_reducible refine gate_callee (f := 41) rfl ?_); refine goesL_ (some 85) rfl rfl Try.func41 pL rfl #[.slice Ao66 t861.length co66, .int .i64 1] rfl pM ?_; (with_reducible refine (laws_markIntS.calls kj38 (fun k_ => some k_ = (.slice Ao66 t861.length co66 : Value).ownBlock) (.slice Ao66 t861.length co66) t861 1 t879 t880 w _ ?side1 ?side2 A56.out).mono ?_); (case side1 => exact pB); (case side2 => exact Kd.R_tight rfl HO_10.out); rintro e w67 ⟨rfl, hy0, hb, hkp⟩; refine ⟨_, rfl, ?_⟩; have n0_ := Aside0.mk (Kd.R_mono (ok' := fun k_ => some k_ ≠ (.slice Ao66 t861.length co66 : Value).ownBlock) (Kd.R_keptB (HO_6.out) hkp (fun k_ hk_ hs_ => (hk_) hs_)) (fun k_ hk_ => hk_.1)); have n1_ := Aside0.mk (Kd.R_reok rfl hy0 (fun k_ e_ => HO_10.out.1 k_ e_)); have n2_ := Aside0.mk (hb); clear HO_6; clear HO_10; clear HB; have HO_6 := n0_; have HO_10 := n1_; have HB := n2_; clear n0_ n1_ n2_; (try clear hb); (try clear hkp); (try clear hy0)) | ((with_reducible refine gate_callee (f := 42) rfl ?_); refine goesL_ (some 88) rfl rfl Try.func42 pL rfl #[.slice Ao66 t880.length co66, .int .i64 1] rfl (by (try simp only [List.map_toArray, List.map_cons, List.map_nil]); first | done | (rw [show t880.length = t861.length from (Kd.R_reads' HO_10.out).1.symm] <;> rfl) | rfl | (simp only [List.length_drop, List.length_take]; rfl)) ?_; (with_reducible refine (laws_heldIntS.calls kj38 _ _ t880 1 t881 _ ?side1 ?side2 A57.out).mono ?_); (case side1 => exact pS ((Kd.R_reads' HO_10.out).2.2)); (case side2 => rw [show t880.length = t861.length from (Kd.R_reads' HO_10.out).1.symm]; exact (Kd.R_reads' HO_10.out).2.1); rintro e w' ⟨rfl, ⟨nd, rfl⟩⟩; refine ⟨_, rfl, ?_⟩) | ((with_reducible refine gate_callee (f := 33) rfl ?_); refine goesL_ (some 96) rfl rfl Try.func33 pL rfl #[.slice A0 l0.length c0] rfl pM ?_; (with_reducible refine (laws_toGuestS.calls kj38 _ _ l0 t882 _ ?side1 ?side2 A62.out).mono ?_); (case side1 => exact pS ((Kd.C_below HR0.out pB))); (case side2 => exact HC0.out); rintro e w68 ⟨v883, rfl, ho0, hb⟩; refine ⟨_, rfl, ?_⟩; have n0_ := Aside0.mk (Kd.R_below (pR HO_6) hb); have n1_ := Aside0.mk (Kd.R_below (pR HO_10) hb); have n2_ := Aside0.mk (Kd.R_lower ho0 (below_size pB)); have n3_ := Aside0.mk (below_step pB hb); clear HO_6; clear HO_10; clear HB; have HO_6 := n0_; have HO_10 := n1_; have HO884 := n2_; have HB := n3_; clear n0_ n1_ n2_ n3_; (try clear hb); (try clear hb2); (try clear hk); (try clear hi); (try clear ho0)) | ((with_reducible refine gate_callee (f := 18) rfl ?_); refine goesL_ (some 98) rfl rfl Try.func18 pL rfl #[.slice A1 l1.length c1] rfl pM ?_; (with_reducible refine (laws_toChoiceS.calls kj38 _ _ l1 t885 _ ?side1 ?side2 A63.out).mono ?_); (case side1 => exact pS ((Kd.C_below HR1.out HB.out))); (case side2 => exact HC1.out); rintro e w69 ⟨v886, rfl, ho0, hb⟩; refine ⟨_, rfl, ?_⟩; have n0_ := Aside0.mk (Kd.R_below (pR HO_6) hb); have n1_ := Aside0.mk (Kd.R_below (pR HO_10) hb); have n2_ := Aside0.mk (Kd.R_below (pR HO884) hb); have n3_ := Aside0.mk (Kd.R_lower ho0 (below_size pB)); have n4_ := Aside0.mk (below_step pB hb); clear HO_6; clear HO_10; clear HO884; clear HB; have HO_6 := n0_; have HO_10 := n1_; have HO884 := n2_; have HO887 := n3_; have HB := n4_; clear n0_ n1_ n2_ n3_ n4_; (try clear hb); (try clear hb2); (try clear hk); (try clear hi); (try clear ho0); obtain ⟨Ao70, co70, eo70⟩ := Kd.R_slice HO884.out; subst eo70; obtain ⟨Ao71, co71, eo71⟩ := Kd.R_slice HO887.out; subst eo71) | ((with_reducible refine gate_callee (f := 38) rfl ?_); refine goesL_ (some 99) rfl rfl Try.func38 pL rfl #[.slice Ao70 t882.length co70, .slice Ao71 t885.length co71] rfl pM ?_; (with_reducible refine (impl_ServeRoom.calls kj38 _ _ t882 _ _ t885 t888 t889 _ ?side1 ?side2 ?side3 ?side4 A64.out).mono ?_); (case side1 => exact pS ((Kd.R_reads' HO884.out).2.2)); (case side2 => exact (Kd.R_reads' HO884.out).2.1); (case side3 => exact pS ((Kd.R_reads' HO887.out).2.2)); (case side4 => exact (Kd.R_reads' HO887.out).2.1); rintro e w72 ⟨v890, rfl, ho0, hb⟩; refine ⟨_, rfl, ?_⟩; have n0_ := Aside0.mk (Kd.R_elder' (pR HO_6) (Kd.R_base ho0) hb); have n1_ := Aside0.mk (Kd.R_elder' (pR HO_10) (Kd.R_base ho0) hb); have n2_ := Aside0.mk (Kd.R_below (pR HO884) hb); have n3_ := Aside0.mk (Kd.R_below (pR HO887) hb); have n4_ := Aside0.mk (Kd.R_lower (Kd.R_new' (Kd.R_new' ho0 (Kd.R_lt (pR HO_6))) (Kd.R_lt (pR HO_10))) (below_size pB)); have n5_ := Aside0.mk (below_step pB hb); clear HO_6; clear HO_10; clear HO884; clear HO887; clear HB; have HO_6 := n0_; have HO_10 := n1_; have HO884 := n2_; have HO887 := n3_; have HO891 := n4_; have HB := n5_; clear n0_ n1_ n2_ n3_ n4_ n5_; (try clear hb); (try clear hb2); (try clear hk); (try clear hi); (try clear ho0)))
             (try simp only [Act.put, List.setIfInBounds_toArray, List.set_cons_zero, List.set_cons_succ])
             go_cut [110] (fun v110 wc => ∃ (kq : Nat) (x110_64 : Bool), v110 = .bool x110_64 ∧ Aside0 (laws_FnExactServeRoom.j2 kq t880 t879 x110_64 = some r) ∧ Aside0 (kq ≤ kj38) ∧ Aside0 (Kd.R (Kd.int .i64) 3 wc w.heap.size (fun _ => True) (.slice Ao66 t861.length co66) t880) ∧ Aside0 (Below w.heap.size w wc))
             case first =>
              have H := HC65.out
              clear HC65
              replace H := Option.bind_eq_some_iff.mp H
              obtain ⟨t892, A730, H⟩ := H
              replace H : (if t892 = true then (laws_FnExactServeRoom.j2 kj38 t880 t879 (t889 != t852)) else (laws_FnExactServeRoom.j2 kj38 t880 t879 true)) = some r := H
              have A73 := Aside0.mk A730
              clear A730
              by_cases c74 : t892 = true
              ·subst c74
               have H1 : (laws_FnExactServeRoom.j2 kj38 t880 t879 (t889 != t852)) = some r := by rw [if_pos rfl] at H; exact H
               clear H
               have H := H1
               clear H1
               have H' := Aside0.mk H
               clear H
               obtain ⟨Ao75, co75, eo75⟩ := Kd.R_slice HO891.out
               subst eo75
               obtain ⟨Ao76, co76, eo76⟩ := Kd.R_slice HO_6.out
               subst eo76
               go_wp2_with (first | ((with_reducible refine gate_callee (f := 37) rfl ?_); refine goesL_ (some 104) rfl rfl Try.func37 pL rfl #[.slice Ao75 t888.length co75, .slice Ao76 t851.length co76] rfl pM ?_; (with_reducible refine (laws_eqIntS.calls kj38 _ _ t888 _ _ t851 true _ ?side1 ?side2 ?side3 ?side4 A73.out).mono ?_); (case side1 => exact pS ((Kd.R_reads' HO891.out).2.2)); (case side2 => exact (Kd.R_reads' HO891.out).2.1); (case side3 => exact pS ((Kd.R_reads' HO_6.out).2.2)); (case side4 => exact (Kd.R_reads' HO_6.out).2.1); rintro e w' ⟨rfl, ⟨nd, rfl⟩⟩; refine ⟨_, rfl, ?_⟩))
               go_meet
               case rel => exact ⟨_, ((t889 != t852)), pF, H', ⟨by have := HJ12.out; have := HJ38.out; first | omega | exact Nat.le_refl _⟩, ⟨by (with_reducible repeat (first | apply Kd.R_alloc | apply Kd.R_drewN | apply Kd.R_drew)); exact Kd.R_mono HO_10.out (fun _ hk => trivial)⟩, ⟨pB⟩⟩
              ·replace c74 := Bool.eq_false_iff.mpr c74
               subst c74
               have H1 : (laws_FnExactServeRoom.j2 kj38 t880 t879 true) = some r := by rw [if_neg (show ¬ (false = true) by decide)] at H; exact H
               clear H
               have H := H1
               clear H1
               have H' := Aside0.mk H
               clear H
               obtain ⟨Ao77, co77, eo77⟩ := Kd.R_slice HO891.out
               subst eo77
               obtain ⟨Ao78, co78, eo78⟩ := Kd.R_slice HO_6.out
               subst eo78
               go_wp2_with (first | ((with_reducible refine gate_callee (f := 37) rfl ?_); refine goesL_ (some 104) rfl rfl Try.func37 pL rfl #[.slice Ao77 t888.length co77, .slice Ao78 t851.length co78] rfl pM ?_; (with_reducible refine (laws_eqIntS.calls kj38 _ _ t888 _ _ t851 false _ ?side1 ?side2 ?side3 ?side4 A73.out).mono ?_); (case side1 => exact pS ((Kd.R_reads' HO891.out).2.2)); (case side2 => exact (Kd.R_reads' HO891.out).2.1); (case side3 => exact pS ((Kd.R_reads' HO_6.out).2.2)); (case side4 => exact (Kd.R_reads' HO_6.out).2.1); rintro e w' ⟨rfl, ⟨nd, rfl⟩⟩; refine ⟨_, rfl, ?_⟩))
               go_meet
               case rel => exact ⟨_, (true), pF, H', ⟨by have := HJ12.out; have := HJ38.out; first | omega | exact Nat.le_refl _⟩, ⟨by (with_reducible repeat (first | apply Kd.R_alloc | apply Kd.R_drewN | apply Kd.R_drew)); exact Kd.R_mono HO_10.out (fun _ hk => trivial)⟩, ⟨pB⟩⟩
             case rest =>
              clear HC65
              try clear c1
              try clear c2
              try clear p2
              try clear c3
              try clear c4
              try clear c4b0
              try clear c5
              try clear c6
              try clear c6b0
              try clear c7
              try clear c15
              try clear c16
              try clear c18
              try clear c20
              try clear c25
              try clear c30
              try clear c31
              try clear c33
              try clear c36
              try clear c37
              try clear c38
              try clear c39
              try clear c40
              try clear c41
              try clear c42
              try clear c44
              try clear c48
              try clear c48b0
              try clear c50
              try clear c55
              try clear c58
              try clear c58b0
              try clear c61
              try clear c61b0
              try clear c61b1
              try clear c74
              try clear p2
              obtain ⟨kq, x110_64, rfl, HA, HJ64, HO_10, HB⟩ := hcut
              have hl10_64 := (Kd.R_reads' HO_10.out).1
              rw [hl10_64] at HO_10
              (try simp only [hl10_64])
              cases kq with
              | zero => exact absurd HA.out (by simp [laws_FnExactServeRoom.j2])
              | succ kj64 =>
               have H := HA.out
               clear HA
               simp only [laws_FnExactServeRoom.j2] at H
               by_cases c79 : x110_64 = true
               ·subst c79
                have H1 : (some false) = some r := by rw [if_pos rfl] at H; exact H
                clear H
                have H := H1
                clear H1
                obtain rfl := Option.some.inj H
                go_wp2
                go_ret
                exact ⟨pE, pB⟩
               ·replace c79 := Bool.eq_false_iff.mpr c79
                subst c79
                have H1 : ((laws_heldIntS.f kj64 t880 1).bind fun t893 => (if t893 < 0 then (some false) else (if t893 = t879 then (some true) else (some false)))) = some r := by rw [if_neg (show ¬ (false = true) by decide)] at H; exact H
                clear H
                have H := H1
                clear H1
                replace H := Option.bind_eq_some_iff.mp H
                obtain ⟨t893, A800, H⟩ := H
                replace H : (if t893 < 0 then (some false) else (if t893 = t879 then (some true) else (some false))) = some r := H
                have A80 := Aside0.mk A800
                clear A800
                by_cases c81 : t893 < 0
                ·rw [if_pos c81] at H
                 have c81b0 : decide (t893 < 0) = true := decide_eq_true c81
                 clear c81
                 obtain rfl := Option.some.inj H
                 go_wp2_with (first | ((with_reducible refine gate_callee (f := 42) rfl ?_); refine goesL_ (some 113) rfl rfl Try.func42 pL rfl #[.slice Ao66 t880.length co66, .int .i64 1] rfl pM ?_; (with_reducible refine (laws_heldIntS.calls kj64 _ _ t880 1 t893 _ ?side1 ?side2 A80.out).mono ?_); (case side1 => exact pS ((Kd.R_reads' HO_10.out).2.2)); (case side2 => exact (Kd.R_reads' HO_10.out).2.1); rintro e w' ⟨rfl, ⟨nd, rfl⟩⟩; refine ⟨_, rfl, ?_⟩))
                 go_ret
                 exact ⟨pE, pB⟩
                ·rw [if_neg c81] at H
                 have c81b0 : decide (t893 < 0) = false := decide_eq_false c81
                 clear c81
                 by_cases c82 : t893 = t879
                 ·rw [if_pos c82] at H
                  have c82b0 : (t893 == t879) = true := beq_iff_eq.mpr c82
                  have c82b1 : (t893 != t879) = false := bne_eq_false_iff_eq.mpr c82
                  clear c82
                  obtain rfl := Option.some.inj H
                  go_wp2_with (first | ((with_reducible refine gate_callee (f := 42) rfl ?_); refine goesL_ (some 113) rfl rfl Try.func42 pL rfl #[.slice Ao66 t880.length co66, .int .i64 1] rfl pM ?_; (with_reducible refine (laws_heldIntS.calls kj64 _ _ t880 1 t893 _ ?side1 ?side2 A80.out).mono ?_); (case side1 => exact pS ((Kd.R_reads' HO_10.out).2.2)); (case side2 => exact (Kd.R_reads' HO_10.out).2.1); rintro e w' ⟨rfl, ⟨nd, rfl⟩⟩; refine ⟨_, rfl, ?_⟩))
                  go_ret
                  exact ⟨pE, pB⟩
                 ·rw [if_neg c82] at H
                  have c82b0 : (t893 == t879) = false := beq_eq_false_iff_ne.mpr c82
                  have c82b1 : (t893 != t879) = true := bne_iff_ne.mpr c82
                  obtain rfl := Option.some.inj H
                  go_wp2_with (first | ((with_reducible refine gate_callee (f := 42) rfl ?_); refine goesL_ (some 113) rfl rfl Try.func42 pL rfl #[.slice Ao66 t880.length co66, .int .i64 1] rfl pM ?_; (with_reducible refine (laws_heldIntS.calls kj64 _ _ t880 1 t893 _ ?side1 ?side2 A80.out).mono ?_); (case side1 => exact pS ((Kd.R_reads' HO_10.out).2.2)); (case side2 => exact (Kd.R_reads' HO_10.out).2.1); rintro e w' ⟨rfl, ⟨nd, rfl⟩⟩; refine ⟨_, rfl, ?_⟩))
                  go_ret
                  exact ⟨pE, pB⟩
            ·rw [if_neg c61] at H
             have c61b0 : (t881 == t879) = false := beq_eq_false_iff_ne.mpr c61
             have c61b1 : (t881 != t879) = true := bne_iff_ne.mpr c61
             obtain rfl := Option.some.inj H
             obtain ⟨Ao83, co83, eo83⟩ := Kd.R_slice HO_10.out
             subst eo83
             go_wp2_with (first | ((with_reducible refine gate_callee (f := 41) rfl ?_); refine goesL_ (some 85) rfl rfl Try.func41 pL rfl #[.slice Ao83 t861.length co83, .int .i64 1] rfl pM ?_; (with_reducible refine (laws_markIntS.calls kj38 (fun k_ => some k_ = (.slice Ao83 t861.length co83 : Value).ownBlock) (.slice Ao83 t861.length co83) t861 1 t879 t880 w _ ?side1 ?side2 A56.out).mono ?_); (case side1 => exact pB); (case side2 => exact Kd.R_tight rfl HO_10.out); rintro e w84 ⟨rfl, hy0, hb, hkp⟩; refine ⟨_, rfl, ?_⟩; have n0_ := Aside0.mk (Kd.R_mono (ok' := fun k_ => some k_ ≠ (.slice Ao83 t861.length co83 : Value).ownBlock) (Kd.R_keptB (HO_6.out) hkp (fun k_ hk_ hs_ => (hk_) hs_)) (fun k_ hk_ => hk_.1)); have n1_ := Aside0.mk (Kd.R_reok rfl hy0 (fun k_ e_ => HO_10.out.1 k_ e_)); have n2_ := Aside0.mk (hb); clear HO_6; clear HO_10; clear HB; have HO_6 := n0_; have HO_10 := n1_; have HB := n2_; clear n0_ n1_ n2_; (try clear hb); (try clear hkp); (try clear hy0)) | ((with_reducible refine gate_callee (f := 42) rfl ?_); refine goesL_ (some 88) rfl rfl Try.func42 pL rfl #[.slice Ao83 t880.length co83, .int .i64 1] rfl (by (try simp only [List.map_toArray, List.map_cons, List.map_nil]); first | done | (rw [show t880.length = t861.length from (Kd.R_reads' HO_10.out).1.symm] <;> rfl) | rfl | (simp only [List.length_drop, List.length_take]; rfl)) ?_; (with_reducible refine (laws_heldIntS.calls kj38 _ _ t880 1 t881 _ ?side1 ?side2 A57.out).mono ?_); (case side1 => exact pS ((Kd.R_reads' HO_10.out).2.2)); (case side2 => rw [show t880.length = t861.length from (Kd.R_reads' HO_10.out).1.symm]; exact (Kd.R_reads' HO_10.out).2.1); rintro e w' ⟨rfl, ⟨nd, rfl⟩⟩; refine ⟨_, rfl, ?_⟩))
             go_ret
             exact ⟨pE, pB⟩
       ·replace c36 := Bool.eq_false_iff.mpr c36
        subst c36
        have H1 : (some false) = some r := by rw [if_neg (show ¬ (false = true) by decide)] at H; exact H
        clear H
        have H := H1
        clear H1
        obtain rfl := Option.some.inj H
        go_wp2_with (first | ((with_reducible refine gate_callee (f := 33) rfl ?_); refine goesL_ (some 56) rfl rfl Try.func33 pL rfl #[.slice A0 l0.length c0] rfl pM ?_; (with_reducible refine (laws_toGuestS.calls kj12 _ _ l0 t866 _ ?side1 ?side2 A31.out).mono ?_); (case side1 => exact pS ((Kd.C_below HR0.out HB.out))); (case side2 => exact HC0.out); rintro e w85 ⟨v867, rfl, ho0, hb⟩; refine ⟨_, rfl, ?_⟩; have n0_ := Aside0.mk (Kd.R_below (pR HO_6) hb); have n1_ := Aside0.mk (Kd.R_elder' (pR HO_8) (Kd.R_base ho0) hb); have n2_ := Aside0.mk (Kd.R_below (pR HO_9) hb); have n3_ := Aside0.mk (Kd.R_below (pR HO_10) hb); have n4_ := Aside0.mk (Kd.R_lower (Kd.R_new' ho0 (Kd.R_lt (pR HO_8))) (below_size pB)); have n5_ := Aside0.mk (below_step pB hb); clear HO_6; clear HO_8; clear HO_9; clear HO_10; clear HB; have HO_6 := n0_; have HO_8 := n1_; have HO_9 := n2_; have HO_10 := n3_; have HO868 := n4_; have HB := n5_; clear n0_ n1_ n2_ n3_ n4_ n5_; (try clear hb); (try clear hb2); (try clear hk); (try clear hi); (try clear ho0); obtain ⟨Ao86, co86, eo86⟩ := Kd.R_slice HO868.out; subst eo86) | ((with_reducible refine gate_callee (f := 36) rfl ?_); refine goesL_ (some 57) rfl rfl Try.func36 pL rfl #[.slice Ao21 t855.length co21, .slice Ao86 t866.length co86] rfl pM ?_; (with_reducible refine (laws_eqGuestS.calls kj12 _ _ t855 _ _ t866 true _ ?side1 ?side2 ?side3 ?side4 A32.out).mono ?_); (case side1 => exact pS ((Kd.R_reads' HO_8.out).2.2)); (case side2 => exact (Kd.R_reads' HO_8.out).2.1); (case side3 => exact pS ((Kd.R_reads' HO868.out).2.2)); (case side4 => exact (Kd.R_reads' HO868.out).2.1); rintro e w87 ⟨rfl, hb⟩; refine ⟨_, rfl, ?_⟩; have n0_ := Aside0.mk (Kd.R_below (pR HO_6) hb); have n1_ := Aside0.mk (Kd.R_below (pR HO_8) hb); have n2_ := Aside0.mk (Kd.R_below (pR HO_9) hb); have n3_ := Aside0.mk (Kd.R_below (pR HO_10) hb); have n4_ := Aside0.mk (Kd.R_below (pR HO868) hb); have n5_ := Aside0.mk (below_step pB hb); clear HO_6; clear HO_8; clear HO_9; clear HO_10; clear HO868; clear HB; have HO_6 := n0_; have HO_8 := n1_; have HO_9 := n2_; have HO_10 := n3_; have HO868 := n4_; have HB := n5_; clear n0_ n1_ n2_ n3_ n4_ n5_; (try clear hb); (try clear hb2); (try clear hk); (try clear hi)) | ((with_reducible refine gate_callee (f := 18) rfl ?_); refine goesL_ (some 61) rfl rfl Try.func18 pL rfl #[.slice A1 l1.length c1] rfl pM ?_; (with_reducible refine (laws_toChoiceS.calls kj12 _ _ l1 t870 _ ?side1 ?side2 A34.out).mono ?_); (case side1 => exact pS ((Kd.C_below HR1.out HB.out))); (case side2 => exact HC1.out); rintro e w88 ⟨v871, rfl, ho0, hb⟩; refine ⟨_, rfl, ?_⟩; have n0_ := Aside0.mk (Kd.R_below (pR HO_6) hb); have n1_ := Aside0.mk (Kd.R_below (pR HO_8) hb); have n2_ := Aside0.mk (Kd.R_elder' (pR HO_9) (Kd.R_base ho0) hb); have n3_ := Aside0.mk (Kd.R_below (pR HO_10) hb); have n4_ := Aside0.mk (Kd.R_below (pR HO868) hb); have n5_ := Aside0.mk (Kd.R_lower (Kd.R_new' ho0 (Kd.R_lt (pR HO_9))) (below_size pB)); have n6_ := Aside0.mk (below_step pB hb); clear HO_6; clear HO_8; clear HO_9; clear HO_10; clear HO868; clear HB; have HO_6 := n0_; have HO_8 := n1_; have HO_9 := n2_; have HO_10 := n3_; have HO868 := n4_; have HO872 := n5_; have HB := n6_; clear n0_ n1_ n2_ n3_ n4_ n5_ n6_; (try clear hb); (try clear hb2); (try clear hk); (try clear hi); (try clear ho0); obtain ⟨Ao89, co89, eo89⟩ := Kd.R_slice HO872.out; subst eo89) | ((with_reducible refine gate_callee (f := 20) rfl ?_); refine goesL_ (some 62) rfl rfl Try.func20 pL rfl #[.slice Ao22 t858.length co22, .slice Ao89 t870.length co89] rfl pM ?_; (with_reducible refine (laws_eqChoiceS.calls kj12 _ _ t858 _ _ t870 false _ ?side1 ?side2 ?side3 ?side4 A35.out).mono ?_); (case side1 => exact pS ((Kd.R_reads' HO_9.out).2.2)); (case side2 => exact (Kd.R_reads' HO_9.out).2.1); (case side3 => exact pS ((Kd.R_reads' HO872.out).2.2)); (case side4 => exact (Kd.R_reads' HO872.out).2.1); rintro e w90 ⟨rfl, hb⟩; refine ⟨_, rfl, ?_⟩; have n0_ := Aside0.mk (Kd.R_below (pR HO_6) hb); have n1_ := Aside0.mk (Kd.R_below (pR HO_8) hb); have n2_ := Aside0.mk (Kd.R_below (pR HO_9) hb); have n3_ := Aside0.mk (Kd.R_below (pR HO_10) hb); have n4_ := Aside0.mk (Kd.R_below (pR HO868) hb); have n5_ := Aside0.mk (Kd.R_below (pR HO872) hb); have n6_ := Aside0.mk (below_step pB hb); clear HO_6; clear HO_8; clear HO_9; clear HO_10; clear HO868; clear HO872; clear HB; have HO_6 := n0_; have HO_8 := n1_; have HO_9 := n2_; have HO_10 := n3_; have HO868 := n4_; have HO872 := n5_; have HB := n6_; clear n0_ n1_ n2_ n3_ n4_ n5_ n6_; (try clear hb); (try clear hb2); (try clear hk); (try clear hi)))
        go_ret
        exact ⟨pE, pB⟩
      ·replace c33 := Bool.eq_false_iff.mpr c33
       subst c33
       have H1 : (some false) = some r := by rw [if_neg (show ¬ (false = true) by decide)] at H; exact H
       clear H
       have H := H1
       clear H1
       obtain rfl := Option.some.inj H
       go_wp2_with (first | ((with_reducible refine gate_callee (f := 33) rfl ?_); refine goesL_ (some 56) rfl rfl Try.func33 pL rfl #[.slice A0 l0.length c0] rfl pM ?_; (with_reducible refine (laws_toGuestS.calls kj12 _ _ l0 t866 _ ?side1 ?side2 A31.out).mono ?_); (case side1 => exact pS ((Kd.C_below HR0.out HB.out))); (case side2 => exact HC0.out); rintro e w91 ⟨v867, rfl, ho0, hb⟩; refine ⟨_, rfl, ?_⟩; have n0_ := Aside0.mk (Kd.R_below (pR HO_6) hb); have n1_ := Aside0.mk (Kd.R_elder' (pR HO_8) (Kd.R_base ho0) hb); have n2_ := Aside0.mk (Kd.R_below (pR HO_9) hb); have n3_ := Aside0.mk (Kd.R_below (pR HO_10) hb); have n4_ := Aside0.mk (Kd.R_lower (Kd.R_new' ho0 (Kd.R_lt (pR HO_8))) (below_size pB)); have n5_ := Aside0.mk (below_step pB hb); clear HO_6; clear HO_8; clear HO_9; clear HO_10; clear HB; have HO_6 := n0_; have HO_8 := n1_; have HO_9 := n2_; have HO_10 := n3_; have HO868 := n4_; have HB := n5_; clear n0_ n1_ n2_ n3_ n4_ n5_; (try clear hb); (try clear hb2); (try clear hk); (try clear hi); (try clear ho0); obtain ⟨Ao92, co92, eo92⟩ := Kd.R_slice HO868.out; subst eo92) | ((with_reducible refine gate_callee (f := 36) rfl ?_); refine goesL_ (some 57) rfl rfl Try.func36 pL rfl #[.slice Ao21 t855.length co21, .slice Ao92 t866.length co92] rfl pM ?_; (with_reducible refine (laws_eqGuestS.calls kj12 _ _ t855 _ _ t866 false _ ?side1 ?side2 ?side3 ?side4 A32.out).mono ?_); (case side1 => exact pS ((Kd.R_reads' HO_8.out).2.2)); (case side2 => exact (Kd.R_reads' HO_8.out).2.1); (case side3 => exact pS ((Kd.R_reads' HO868.out).2.2)); (case side4 => exact (Kd.R_reads' HO868.out).2.1); rintro e w93 ⟨rfl, hb⟩; refine ⟨_, rfl, ?_⟩; have n0_ := Aside0.mk (Kd.R_below (pR HO_6) hb); have n1_ := Aside0.mk (Kd.R_below (pR HO_8) hb); have n2_ := Aside0.mk (Kd.R_below (pR HO_9) hb); have n3_ := Aside0.mk (Kd.R_below (pR HO_10) hb); have n4_ := Aside0.mk (Kd.R_below (pR HO868) hb); have n5_ := Aside0.mk (below_step pB hb); clear HO_6; clear HO_8; clear HO_9; clear HO_10; clear HO868; clear HB; have HO_6 := n0_; have HO_8 := n1_; have HO_9 := n2_; have HO_10 := n3_; have HO868 := n4_; have HB := n5_; clear n0_ n1_ n2_ n3_ n4_ n5_; (try clear hb); (try clear hb2); (try clear hk); (try clear hi)))
       go_ret
       exact ⟨pE, pB⟩

end Go.Proofs.Ytehenjjaekkcfaa.Q
