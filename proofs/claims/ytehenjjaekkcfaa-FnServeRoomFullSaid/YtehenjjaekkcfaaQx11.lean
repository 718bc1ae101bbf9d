-- Written by the kit's print.py for all laws of the seat at once (one namespace), by a program of this session.
import Derived.Test.YtehenjjaekkcfaaQx0
import Derived.Test.YtehenjjaekkcfaaQx2
import Derived.Test.YtehenjjaekkcfaaQx9
namespace Go.Proofs.Ytehenjjaekkcfaa.Q
open Go.RowKit Go.Proofs.YtehenjjaekkcfaaW.PrintWords Go.Proofs.YtehenjjaekkcfaaW.PrintLast Go.Proofs.YtehenjjaekkcfaaW.PrintMore
attribute [local go_sem] max2_int min2_int max_two min_two max_three min_three max_four min_four   -- for this text's walks alone
set_option linter.unusedVariables false
set_option linter.unusedSimpArgs false

/-! ### impl_ServeFirst: function 23 -/
-- by hand
def impl_ServeFirst.pick (g : S43) (c : S32) : Bool := (impl_Choice_may.f c.f0 c.f1 c.f2 g.f0 g.f1 g.f2).getD false
def impl_ServeFirst.f (k : Nat) (l0 : List S43) (l1 : List S32) : Option (List Int) := (impl_GuestsValid.f k l0).bind fun t => if t = true then ((impl_ChoicesValid.f l1).bind fun t => if t = true then (if l0.length < 17592186044416 then some (l0.map fun g => idxOf (impl_ServeFirst.pick g) l1) else none) else some []) else some []
theorem impl_ServeFirst.mono : ∀ a0 a1 k, LeO (impl_ServeFirst.f k a0 a1) (impl_ServeFirst.f (k + 1) a0 a1) := by
  intro a0 a1 k
  unfold impl_ServeFirst.f
  refine LeO.bind (impl_GuestsValid.mono _ _) (fun _ => LeO.refl _)
theorem impl_ServeFirst.may_some (g : S43) (c : S32) : impl_Choice_may.f c.f0 c.f1 c.f2 g.f0 g.f1 g.f2 = some (impl_ServeFirst.pick g c) := by
  have h : ∃ r, impl_Choice_may.f c.f0 c.f1 c.f2 g.f0 g.f1 g.f2 = some r := by
    simp only [impl_Choice_may.f, impl_GuestMay.f, impl_guestValid.f, impl_isSet.f, impl_DietAllows.f, impl_isKind.f, impl_ChoicesValid.within_at, Option.bind_some]
    repeat' split
    all_goals first | exact ⟨_, rfl⟩ | (simp only [Option.bind_some]; repeat' split) 
    all_goals exact ⟨_, rfl⟩
  obtain ⟨r, h⟩ := h
  unfold impl_ServeFirst.pick
  rw [h]; rfl
set_option maxHeartbeats 4000000 in
set_option maxRecDepth 100000 in
theorem impl_ServeFirst.lit (g : S43) (x : S32) (B : Nat) (W : World) (h0 : W.cell? ⟨B, 0, none⟩ = some (.int .i64 g.f0)) (h1 : W.cell? ⟨B, 1, none⟩ = some (.int .i64 g.f1)) (h2 : W.cell? ⟨B, 2, none⟩ = some (.int .i64 g.f2)) :
    Calls Try.prog 60 #[.agg #[.int .i64 x.f0, .int .i64 x.f1, .int .i64 x.f2], .pointer (some ⟨B, 0, none⟩)] W fun e w' => e = .returned (.bool (impl_ServeFirst.pick g x)) ∧ Below W.heap.size W w' := by
  have hu43 := Try.underlying43
  have hu32 := Try.underlying32
  have hb : B < W.heap.size := World.block_lt_of_cell? W ⟨B, 0, none⟩ h0
  have HM := Aside0.mk (impl_ServeFirst.may_some g x)
  obtain ⟨a0, a1, a2⟩ := x
  obtain ⟨b0, b1, b2⟩ := g
  generalize impl_ServeFirst.pick ⟨b0, b1, b2⟩ ⟨a0, a1, a2⟩ = v at HM
  go_enter Try.func60, Try.ntmps60
  go_wp2_with fail
  refine (impl_Choice_may.calls _ _ _ _ _ _ _ _ HM.out).mono ?_
  rintro e w1 ⟨rfl, hb1⟩
  have HB1 := Aside0.mk hb1
  clear hb1
  go_wp2
  go_ret
  exact ⟨rfl, below_then (below_alloc (Below.refl _ _) _) (by simp) (by simpa using HB1.out)⟩
theorem impl_ServeFirst.enters : ∀ args w, (callFunc 60 args).run Try.prog w = .ok (.enter 60 args) w := by
  intro args w
  have h1 : Try.f60.name ≠ "runtime.NumGoroutine" := of_decide_eq_true pL
  have hb : ∃ c, Try.f60.body = some c := ⟨_, rfl⟩
  obtain ⟨c, hb⟩ := hb
  simp [callFunc, Try.func60, h1, hb, mark]
theorem impl_ServeFirst.infoI : (Try.prog.info? 3).map (fun i => (i.zero, i.size, i.bytes)) = some (some (.int .i64 0), 1, 8) := by kernel_rfl
theorem impl_ServeFirst.take_next {α : Type} (l : List α) (d : α) (i : Nat) (h : i < l.length) : l.take (i + 1) = l.take i ++ [l.getD i d] := by
  rw [List.take_succ_eq_append_getElem h, List.getD_eq_getElem?_getD, List.getElem?_eq_getElem h, Option.getD_some]
set_option maxHeartbeats 4000000 in
set_option maxRecDepth 100000 in
theorem impl_ServeFirst.calls (k : Nat) (A0 : Option Addr) (c0 : Nat) (l0 : List (S43)) (A1 : Option Addr) (c1 : Nat) (l1 : List (S32)) (r : List Int) (w : World) (hr0 : Kd.C k43 w A0 l0.length l0) (hc0 : l0.length ≤ c0) (hr1 : Kd.C k32 w A1 l1.length l1) (hc1 : l1.length ≤ c1) (h : impl_ServeFirst.f k l0 l1 = some r) :
    Calls Try.prog 23 #[.slice A0 l0.length c0, .slice A1 l1.length c1] w fun e w' => ∃ v0_ : Value, e = .returned (v0_) ∧ Kd.R (Kd.int .i64) 3 w' w.heap.size (fun _ => True) v0_ r ∧ Below w.heap.size w w' := by
  have hu43 := Try.underlying43
  unfold impl_ServeFirst.f at h
  obtain ⟨b, hb, h⟩ := Option.bind_eq_some_iff.1 h
  have HR0 := Aside0.mk hr0
  have HC0 := Aside0.mk hc0
  have HR1 := Aside0.mk hr1
  have HC1 := Aside0.mk hc1
  have HG := Aside0.mk hb
  have HB := Aside0.mk (Below.refl w.heap.size w)
  have hn : l0.length ≤ 9223372036854775807 := hr0.2.1
  clear hr0 hc0 hr1 hc1 hb
  cases b with
  | false =>
    obtain rfl : [] = r := by simpa using h
    clear h
    go_enter Try.func23, Try.ntmps23
    go_wp2_with (first | ((with_reducible refine gate_dst (N := 8) rfl ?_); refine Kd.R_lit (Kd.int .i64) _ 3 ?hg (N := 8) ?hd (xs := ([] : List Int)) (inner := []) (ok := fun _ => True) (okp := fun _ => True) ?hr ?hp (fun _ hk => hk) trivial (Below.refl _ _) (Nat.le_refl _) (by simp) ?_; (case hd => rfl); (case hg => rfl); (case hr => first | (go_simp; done) | (go_simp; rfl)); (case hp => exact (Reps.none _ _)); intro v1 w1 ho1 hb hg_ hnew_; clear hg_ hnew_; have n0_ := Aside0.mk (Kd.R_lower ho1 (below_size HB.out)); have n1_ := Aside0.mk (below_step HB.out hb); clear HB; have HO1 := n0_; have HB := n1_; clear n0_ n1_; clear hb ho1))
    refine (impl_GuestsValid.calls k A0 c0 l0 false _ (Kd.C_below HR0.out HB.out) HC0.out HG.out).mono ?_
    rintro e w2 ⟨rfl, hb2⟩
    have HO2 := Aside0.mk (Kd.R_below HO1.out hb2)
    have HB2 := Aside0.mk (below_step HB.out hb2)
    clear hb2
    go_wp2
    go_ret
    exact ⟨_, rfl, HO2.out, HB2.out⟩
  | true =>
    rw [if_pos rfl] at h
    obtain ⟨b, hb, h⟩ := Option.bind_eq_some_iff.1 h
    have HV := Aside0.mk hb
    clear hb
    cases b with
    | false =>
      obtain rfl : [] = r := by simpa using h
      clear h
      go_enter Try.func23, Try.ntmps23
      go_wp2_with (first | ((with_reducible refine gate_dst (N := 8) rfl ?_); refine Kd.R_lit (Kd.int .i64) _ 3 ?hg (N := 8) ?hd (xs := ([] : List Int)) (inner := []) (ok := fun _ => True) (okp := fun _ => True) ?hr ?hp (fun _ hk => hk) trivial (Below.refl _ _) (Nat.le_refl _) (by simp) ?_; (case hd => rfl); (case hg => rfl); (case hr => first | (go_simp; done) | (go_simp; rfl)); (case hp => exact (Reps.none _ _)); intro v1 w1 ho1 hb hg_ hnew_; clear hg_ hnew_; have n0_ := Aside0.mk (Kd.R_lower ho1 (below_size HB.out)); have n1_ := Aside0.mk (below_step HB.out hb); clear HB; have HO1 := n0_; have HB := n1_; clear n0_ n1_; clear hb ho1))
      refine (impl_GuestsValid.calls k A0 c0 l0 true _ (Kd.C_below HR0.out HB.out) HC0.out HG.out).mono ?_
      rintro e w2 ⟨rfl, hb2⟩
      have HO2 := Aside0.mk (Kd.R_below HO1.out hb2)
      have HB2 := Aside0.mk (below_step HB.out hb2)
      clear hb2
      go_wp2_with fail
      refine (impl_ChoicesValid.calls A1 c1 l1 false _ (Kd.C_below HR1.out HB2.out) HC1.out HV.out).mono ?_
      rintro e w3 ⟨rfl, hb3⟩
      have HO3 := Aside0.mk (Kd.R_below HO2.out hb3)
      have HB3 := Aside0.mk (below_step HB2.out hb3)
      clear hb3
      go_wp2
      go_ret
      exact ⟨_, rfl, HO3.out, HB3.out⟩
    | true =>
      rw [if_pos rfl] at h
      by_cases hl : l0.length < 17592186044416
      · rw [if_pos hl] at h
        obtain rfl := Option.some.inj h
        have HL := Aside0.mk hl
        clear h hl
        go_enter Try.func23, Try.ntmps23
        go_wp2_with (first | ((with_reducible refine gate_dst (N := 8) rfl ?_); refine Kd.R_lit (Kd.int .i64) _ 3 ?hg (N := 8) ?hd (xs := ([] : List Int)) (inner := []) (ok := fun _ => True) (okp := fun _ => True) ?hr ?hp (fun _ hk => hk) trivial (Below.refl _ _) (Nat.le_refl _) (by simp) ?_; (case hd => rfl); (case hg => rfl); (case hr => first | (go_simp; done) | (go_simp; rfl)); (case hp => exact (Reps.none _ _)); intro v1 w1 ho1 hb hg_ hnew_; clear hg_ hnew_; have n0_ := Aside0.mk (Kd.R_lower ho1 (below_size HB.out)); have n1_ := Aside0.mk (below_step HB.out hb); clear HB; have HO1 := n0_; have HB := n1_; clear n0_ n1_; clear hb ho1))
        refine (impl_GuestsValid.calls k A0 c0 l0 true _ (Kd.C_below HR0.out HB.out) HC0.out HG.out).mono ?_
        rintro e w2 ⟨rfl, hb2⟩
        have HO2 := Aside0.mk (Kd.R_below HO1.out hb2)
        have HB2 := Aside0.mk (below_step HB.out hb2)
        clear hb2
        go_wp2_with fail
        refine (impl_ChoicesValid.calls A1 c1 l1 true _ (Kd.C_below HR1.out HB2.out) HC1.out HV.out).mono ?_
        rintro e w3 ⟨rfl, hb3⟩
        have HO3 := Aside0.mk (Kd.R_below HO2.out hb3)
        have HB3 := Aside0.mk (below_step HB2.out hb3)
        clear hb3 HB HB2 HO1 HO2
        go_wp2
        go_loopg [5, 20] l0.length (fun gg v5 v20 wr => ∃ x : Int, Aside0 (0 ≤ x ∧ x ≤ (l0.length : Int)) ∧ Aside0 (((l0.length : Int) - x).toNat ≤ gg) ∧ v20 = .int .i64 x ∧ Aside0 (Kd.R (Kd.int .i64) 3 wr w.heap.size (fun _ => True) v5 ((l0.take x.toNat).map fun g => idxOf (impl_ServeFirst.pick g) l1)) ∧ Aside0 (Below w.heap.size w wr))
        case atStart => exact ⟨0, ⟨by omega⟩, ⟨by omega⟩, rfl, ⟨by simpa using HO3.out⟩, HB3⟩
        case round =>
          clear HO3 HB3
          obtain ⟨x, HX, HGG, rfl, HO, HB⟩ := hrel
          by_cases hlt : x < (l0.length : Int)
          · have c3b0 : decide (x < (l0.length : Int)) = true := decide_eq_true hlt
            have HLT := Aside0.mk hlt
            have p1 : 0 ≤ x := HX.out.1
            obtain ⟨ad, ea, hx0, hx1, hx2⟩ := at_T43 (Kd.C_below HR0.out HB.out) x p1 hlt
            cases ea
            have HY : Aside0 (rd_T43 l0 x = l0.getD x.toNat z43) := ⟨rfl⟩
            have ew : wrap64 (x + 1) = x + 1 := by unfold wrap64; omega
            have EW := Aside0.mk ew
            clear ew
            replace p1 := eq_true p1
            replace hlt := eq_true hlt
            generalize rd_T43 l0 x = y at hx0 hx1 hx2 HY
            have HQ : Aside0 (∀ W gb, Below w.heap.size w W → W.heap[gb]? = some (.cells #[.int .i64 y.f0, .int .i64 y.f1, .int .i64 y.f2] 43 (0, 0)) → Calls Try.prog 59 #[.slice A1 l1.length c1, .func (.func 60) #[] #[.pointer (some ⟨gb, 0, none⟩)]] W fun e w' => e = .returned (.int .i64 (idxOf (impl_ServeFirst.pick y) l1)) ∧ Below W.heap.size W w') := ⟨fun W gb hW hgb =>
              indexChoice (impl_ServeFirst.pick y) 60 #[.pointer (some ⟨gb, 0, none⟩)] impl_ServeFirst.enters A1 c1 l1 W (Kd.C_below HR1.out hW) HC1.out (fun W2 x2 hb2 => (impl_ServeFirst.lit y x2 gb W2 ((blk_cell (blk_below hgb hb2) 0).trans rfl) ((blk_cell (blk_below hgb hb2) 1).trans rfl) ((blk_cell (blk_below hgb hb2) 2).trans rfl)).mono fun e w' ⟨he, hb3⟩ => ⟨he, Below.trans hb2 (hb3.mono hb2.size)⟩)⟩
            have HI : Aside0 (((l0.take (x + 1).toNat).map fun g => idxOf (impl_ServeFirst.pick g) l1) = ((l0.take x.toNat).map fun g => idxOf (impl_ServeFirst.pick g) l1) ++ [idxOf (impl_ServeFirst.pick y) l1]) := ⟨by
              have e : (x + 1).toNat = x.toNat + 1 := by have := HX.out; omega
              rw [e, impl_ServeFirst.take_next l0 z43 x.toNat (by have := HX.out; have := HLT.out; omega), List.map_append, HY.out]; rfl⟩
            have HN : Aside0 (((l0.take x.toNat).map fun g => idxOf (impl_ServeFirst.pick g) l1).length ≤ l0.length) := ⟨by rw [List.length_map, List.length_take]; omega⟩
            generalize idxOf (impl_ServeFirst.pick y) l1 = n at HQ HI
            generalize ((l0.take x.toNat).map fun g => idxOf (impl_ServeFirst.pick g) l1) = acc at HO HI HN
            go_wp2_with (first | ((with_reducible refine gate_dst (N := 7) rfl ?_); refine box_event ?hg (N := 7) ?hd (cs := #[.int .i64 0, .int .i64 0, .int .i64 0]) (t := 43) ?hr ?_; (case hd => rfl); (case hg => rfl); (case hr => first | (go_simp; done) | (go_simp; rfl)); intro gb hg w5 hbox hb; have n0_ := Aside0.mk (Kd.R_below HO.out hb); have n1_ := Aside0.mk (below_step HB.out hb); have n2_ := Aside0.mk hbox; have n3_ := Aside0.mk ((by rw [hg]; exact HB.out.size) : w.heap.size ≤ gb); have n4_ := Aside0.mk (Kd.R_lt HO.out); clear HO HB; have HO := n0_; have HB := n1_; have BK := n2_; have GW := n3_; have GN : Aside0 (∀ k, _ → k ≠ gb) := ⟨fun k hk => by have := n4_.out k hk; omega⟩; clear n0_ n1_ n2_ n3_ n4_ hb hbox hg; have hcz0 : w5.cell? ⟨gb, 0, none⟩ = some (.int .i64 0) := (blk_cell BK.out 0).trans rfl; have hcz1 : w5.cell? ⟨gb, 1, none⟩ = some (.int .i64 0) := (blk_cell BK.out 1).trans rfl; have hcz2 : w5.cell? ⟨gb, 2, none⟩ = some (.int .i64 0) := (blk_cell BK.out 2).trans rfl; have hfz0 := blk_frozen BK.out 0; have hfz1 := blk_frozen BK.out 1; have hfz2 := blk_frozen BK.out 2))
            have hW := below_set (j := 2) (v := .int .i64 y.f2) (below_set (j := 1) (v := .int .i64 y.f1) (below_set (j := 0) (v := .int .i64 y.f0) HB.out GW.out) GW.out) GW.out
            have hK : Aside0 ((((w5.setCell ⟨gb, 0, none⟩ (.int .i64 y.f0)).setCell ⟨gb, 1, none⟩ (.int .i64 y.f1)).setCell ⟨gb, 2, none⟩ (.int .i64 y.f2)).heap[gb]? = some (.cells #[.int .i64 y.f0, .int .i64 y.f1, .int .i64 y.f2] 43 (0, 0))) := ⟨blk_set (blk_set (blk_set BK.out 0 _) 1 _) 2 _⟩
            have HO' : Kd.R (Kd.int .i64) 3 w5 w.heap.size (fun k_ => k_ ≠ gb) u5 acc := ⟨GN.out, HO.out.2.imp_ (fun _ _ h => h)⟩
            have HO2 := Aside0.mk (Kd.R_far (p := ⟨gb, 2, none⟩) (Kd.R_far (p := ⟨gb, 1, none⟩) (Kd.R_far (p := ⟨gb, 0, none⟩) HO' (fun _ hk => hk) (.int .i64 y.f0)) (fun _ hk => hk) (.int .i64 y.f1)) (fun _ hk => hk) (.int .i64 y.f2))
            have HW := Aside0.mk hW
            have HG5 := Aside0.mk (blk_lt hK.out)
            clear HO' HO hW
            refine (HQ.out _ gb HW.out hK.out).mono ?_
            rintro e w6 ⟨rfl, hb6⟩
            have HO6 := Aside0.mk (Kd.R_below HO2.out hb6)
            have HB6 := Aside0.mk (below_step HW.out hb6)
            have GZ : Aside0 (gb < w6.heap.size) := ⟨Nat.lt_of_lt_of_le HG5.out hb6.size⟩
            clear HO2 HW hb6 HB BK hcz0 hcz1 hcz2 hfz0 hfz1 hfz2 GN
            go_wp2_with (first | ((with_reducible refine gate_builtin (b := .append) (xs := #[.tmp 24, .tmp 28]) rfl ?_); at_builtin; refine Kd.R_append (Kd.int .i64) (w0 := w) w.heap.size rfl (.tmp 24) (.tmp 28) 37 3 (.int .i64 0) 8 rfl Try.underlying37 impl_ServeFirst.infoI rfl (by decide) (by decide) u5 acc n [.int .i64 n] (fun k_ => k_ ≠ gb) (fun _ => False) rfl (by first | (go_simp; done) | (go_simp; rfl)) rfl (fun _ hk => hk.elim) (fun k_ hk => by have := GZ.out; omega) HO6.out HB6.out HB6.out.size (by have := HL.out; have := HN.out; omega) ?_; intro v7 w7 ho hb hg hat; have HO7 := Aside0.mk ho; have HB7 := Aside0.mk hb; clear ho hb hg hat))
            go_roundg ((l0.length : Int) - (x + 1)).toNat
            case measure => have := HX.out; have := HGG.out; have := HLT.out; omega
            case rel => exact ⟨x + 1, ⟨by have := HX.out; have := HLT.out; omega⟩, ⟨Nat.le_refl _⟩, by first | rfl | (rw [EW.out]; done), ⟨by rw [HI.out]; exact Kd.R_mono HO7.out (fun _ _ => trivial)⟩, HB7⟩
          · have c3b0 : decide (x < (l0.length : Int)) = false := decide_eq_false hlt
            have HE : Aside0 (x.toNat = l0.length) := ⟨by have := HX.out; omega⟩
            clear hlt
            go_wp2
            go_ret
            refine ⟨_, rfl, ?_, HB.out⟩
            have := HO.out
            rw [HE.out, List.take_length] at this
            exact this
      · rw [if_neg hl] at h
        cases h

end Go.Proofs.Ytehenjjaekkcfaa.Q
