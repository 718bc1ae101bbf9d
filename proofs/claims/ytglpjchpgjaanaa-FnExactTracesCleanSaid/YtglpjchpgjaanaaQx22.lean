-- Written by the kit's print.py for all laws of the seat at once (one namespace), by a program of this session.
import Derived.Test.YtglpjchpgjaanaaQx0
import Derived.Test.YtglpjchpgjaanaaQx3
import Derived.Test.YtglpjchpgjaanaaQx5
namespace Go.Proofs.Ytglpjchpgjaanaa.Q
open Go.RowKit Go.Proofs.YtglpjchpgjaanaaW.PrintWords Go.Proofs.YtglpjchpgjaanaaW.PrintLast Go.Proofs.YtglpjchpgjaanaaW.PrintMore
attribute [local go_sem] max2_int min2_int max_two min_two max_three min_three max_four min_four   -- for this text's walks alone
set_option linter.unusedVariables false
set_option linter.unusedSimpArgs false

/-! ### impl_TracesClean: function 32 -/
-- by hand
def impl_TracesClean.put (on : List Int) (u : S40) : List Int := if u.f2 = true then on.set u.f0.toNat 0 else on
def impl_TracesClean.after (on : List Int) (u : S40) : List Int := (impl_TracesClean.put on u).set u.f0.toNat (Go.bits .or .i64 ((impl_TracesClean.put on u).getD u.f0.toNat 0) u.f1)
/-- use n, cleaned where what is on its tool is not allowed -/
def impl_TracesClean.cu (on : List Int) (l : List S40) (a : List Int) (n : Nat) : S40 := ⟨(l.getD n z40).f0, (l.getD n z40).f1, (Go.bits .andNot .i64 (on.getD (l.getD n z40).f0.toNat 0) (a.getD n 0)) != 0⟩
/-- what is on the tools ahead of use n -/
def impl_TracesClean.on (l : List S40) (a : List Int) : Nat → List Int
  | 0 => [0, 0, 0, 0, 0]
  | n + 1 => impl_TracesClean.after (impl_TracesClean.on l a n) (impl_TracesClean.cu (impl_TracesClean.on l a n) l a n)
def impl_TracesClean.clean (l : List S40) (a : List Int) (n : Nat) : S40 := impl_TracesClean.cu (impl_TracesClean.on l a n) l a n
def impl_TracesClean.f (k : Nat) (l0 : List S40) (l1 : List Int) : Option (List S40 × Bool) := (impl_UsesValid.f k l0).bind fun t => if t = true then (if l1.length = l0.length then (if ∀ x ∈ l1, impl_isSet.f x = some true then (if l0.length < 5864062014805 ∧ ∀ x ∈ l0, 0 ≤ x.f0 ∧ x.f0 < 5 then some ((List.range l0.length).map (impl_TracesClean.clean l0 l1), true) else none) else some ([], false)) else some ([], false)) else some ([], false)
theorem impl_TracesClean.mono : ∀ a0 a1 k, LeO (impl_TracesClean.f k a0 a1) (impl_TracesClean.f (k + 1) a0 a1) := by
  intro a0 a1 k
  unfold impl_TracesClean.f
  refine LeO.bind (impl_UsesValid.mono _ _) (fun _ => LeO.refl _)
def impl_TracesClean.arr (on : List Int) : Array Value := (on.map (Value.int .i64)).toArray
theorem impl_TracesClean.arr_set (on : List Int) (i : Nat) (v : Int) : (impl_TracesClean.arr on).setIfInBounds i (.int .i64 v) = impl_TracesClean.arr (on.set i v) := by
  unfold impl_TracesClean.arr
  rw [List.setIfInBounds_toArray, ← List.map_set]
theorem impl_TracesClean.arr_at (on : List Int) (i : Nat) (h : i < on.length) : (impl_TracesClean.arr on)[i]? = some (.int .i64 (on.getD i 0)) := by
  unfold impl_TracesClean.arr
  rw [List.getElem?_toArray, List.getElem?_map, List.getD_eq_getElem?_getD, List.getElem?_eq_getElem h]; rfl
theorem impl_TracesClean.on_len (l : List S40) (a : List Int) : ∀ n, (impl_TracesClean.on l a n).length = 5
  | 0 => rfl
  | n + 1 => by
    simp only [impl_TracesClean.on, impl_TracesClean.after, impl_TracesClean.put, List.length_set]
    split <;> simp [impl_TracesClean.on_len l a n]
theorem impl_TracesClean.set_some (a : Int) : ∃ b, impl_isSet.f a = some b := by
  simp only [impl_isSet.f, impl_within.f, Option.bind_some]
  split <;> exact ⟨_, rfl⟩
set_option maxHeartbeats 8000000 in
set_option maxRecDepth 100000 in
theorem impl_TracesClean.calls (k : Nat) (A0 : Option Addr) (c0 : Nat) (l0 : List (S40)) (A1 : Option Addr) (c1 : Nat) (l1 : List Int) (r1 : List (S40)) (r2 : Bool) (w : World) (hr0 : Kd.C k40 w A0 l0.length l0) (hc0 : l0.length ≤ c0) (hr1 : Kd.C (Kd.int .i64) w A1 l1.length l1) (hc1 : l1.length ≤ c1) (h : impl_TracesClean.f k l0 l1 = some (r1, r2)) :
    Calls Try.prog 32 #[.slice A0 l0.length c0, .slice A1 l1.length c1] w fun e w' => ∃ v0_ : Value, e = .returned (.tuple #[v0_, .bool r2]) ∧ Kd.R k40 40 w' w.heap.size (fun _ => True) v0_ r1 ∧ Below w.heap.size w w' := by
  have hu40 := Try.underlying40
  have hu59 := Try.underlying59
  unfold impl_TracesClean.f at h
  obtain ⟨b, hb, h⟩ := Option.bind_eq_some_iff.1 h
  have HR0 := Aside0.mk hr0
  have HC0 := Aside0.mk hc0
  have HR1 := Aside0.mk hr1
  have HC1 := Aside0.mk hc1
  have HG := Aside0.mk hb
  have HB := Aside0.mk (Below.refl w.heap.size w)
  have hn : l0.length ≤ 9223372036854775807 := hr0.2.1
  have hn1 : l1.length ≤ 9223372036854775807 := hr1.2.1
  clear hr0 hc0 hr1 hc1 hb
  cases b with
  | false =>
    obtain ⟨rfl, rfl⟩ : [] = r1 ∧ false = r2 := by simpa using h
    clear h
    go_enter Try.func32, Try.ntmps32
    go_wp2_with fail
    refine (impl_UsesValid.calls k A0 c0 l0 false _ (Kd.C_below HR0.out HB.out) HC0.out HG.out).mono ?_
    rintro e w2 ⟨rfl, hb2⟩
    have HB2 := Aside0.mk (below_step HB.out hb2)
    clear hb2
    go_wp2
    go_ret2
    exact ⟨_, rfl, Kd.R_nil _ _ _ _ _, HB2.out⟩
  | true =>
    rw [if_pos rfl] at h
    by_cases hlen : l1.length = l0.length
    · rw [if_pos hlen] at h
      have HLEN := Aside0.mk hlen
      have hle : ((l1.length : Int) != (l0.length : Int)) = false := by simp [hlen]
      clear hlen
      go_enter Try.func32, Try.ntmps32
      go_wp2_with fail
      refine (impl_UsesValid.calls k A0 c0 l0 true _ (Kd.C_below HR0.out HB.out) HC0.out HG.out).mono ?_
      rintro e w2 ⟨rfl, hb2⟩
      have HB2 := Aside0.mk (below_step HB.out hb2)
      clear hb2 HB
      go_wp2
      go_loopg [7, 24] l1.length (fun gg _ v24 wr => ∃ x : Int, Aside0 (0 ≤ x ∧ x ≤ (l1.length : Int)) ∧ Aside0 (((l1.length : Int) - x).toNat ≤ gg) ∧ v24 = .int .i64 x ∧ Aside0 (∀ j : Nat, (j : Int) < x → impl_isSet.f (l1.getD j 0) = some true) ∧ Aside0 (Below w.heap.size w wr))
      case atStart => exact ⟨0, ⟨by omega⟩, ⟨by omega⟩, rfl, ⟨fun j hj => absurd hj (by omega)⟩, HB2⟩
      case round =>
        clear HB2
        obtain ⟨x, HX, HGG, rfl, HI, HB⟩ := hrel
        by_cases hlt : x < (l1.length : Int)
        · have c3b0 : decide (x < (l1.length : Int)) = true := decide_eq_true hlt
          have HLT := Aside0.mk hlt
          have p1 : 0 ≤ x := HX.out.1
          obtain ⟨ad, ea, hx0⟩ := Kd.at_int (Kd.C_below HR1.out HB.out) x p1 hlt
          cases ea
          have ew : wrap64 (x + 1) = x + 1 := by unfold wrap64; omega
          have EW := Aside0.mk ew
          clear ew
          obtain ⟨b, hb⟩ := impl_TracesClean.set_some (rd l1 x)
          have HS := Aside0.mk hb
          have HY : Aside0 (rd l1 x = l1.getD x.toNat 0) := ⟨rfl⟩
          clear hb
          replace p1 := eq_true p1
          replace hlt := eq_true hlt
          cases b with
          | true =>
            go_wp2_with (first | (go_at_call 41; (with_reducible refine (impl_isSet.calls (rd l1 x) true _ HS.out).mono ?_); rintro e w' ⟨rfl, ⟨nd, rfl⟩⟩))
            go_roundg ((l1.length : Int) - (x + 1)).toNat
            case measure => have := HX.out; have := HGG.out; have := HLT.out; omega
            case rel => exact ⟨x + 1, ⟨by have := HX.out; have := HLT.out; omega⟩, ⟨Nat.le_refl _⟩, by first | rfl | (rw [EW.out]; done), ⟨fun j hj => by
              have := HX.out
              by_cases e : j = x.toNat
              · rw [e, ← HY.out]; exact HS.out
              · exact HI.out j (by omega)⟩, ⟨pB⟩⟩
          | false =>
            have hno : ¬ ∀ x ∈ l1, impl_isSet.f x = some true := fun h' => by
              have hx : x.toNat < l1.length := by have := HX.out; have := HLT.out; omega
              have e := h' _ (List.getElem_mem hx)
              have h2 := HS.out
              rw [HY.out, List.getD_eq_getElem?_getD, List.getElem?_eq_getElem hx, Option.getD_some, e] at h2
              cases h2
            rw [if_neg hno] at h
            obtain ⟨rfl, rfl⟩ : [] = r1 ∧ false = r2 := by simpa using h
            clear h hno
            go_wp2_with (first | (go_at_call 41; (with_reducible refine (impl_isSet.calls (rd l1 x) false _ HS.out).mono ?_); rintro e w' ⟨rfl, ⟨nd, rfl⟩⟩))
            go_ret2
            exact ⟨_, rfl, Kd.R_nil _ _ _ _ _, pB⟩
        · have c3b0 : decide (x < (l1.length : Int)) = false := decide_eq_false hlt
          have hall : ∀ x ∈ l1, impl_isSet.f x = some true := fun y hy => by
            obtain ⟨j, hj, rfl⟩ := List.mem_iff_getElem.1 hy
            have := HI.out j (by omega)
            rwa [List.getD_eq_getElem?_getD, List.getElem?_eq_getElem hj, Option.getD_some] at this
          rw [if_pos hall] at h
          clear hlt hall HI HGG HX
          by_cases hl : l0.length < 5864062014805 ∧ ∀ x ∈ l0, 0 ≤ x.f0 ∧ x.f0 < 5
          · rw [if_pos hl] at h
            obtain ⟨rfl, rfl⟩ : (List.range l0.length).map (impl_TracesClean.clean l0 l1) = r1 ∧ true = r2 := by simpa using h
            have HL := Aside0.mk hl
            clear h hl
            go_wp2_with (first | ((with_reducible refine gate_dst (N := 32) rfl ?_); refine Kd.R_lit k40 _ 40 ?hg (N := 32) ?hd (xs := ([] : List (S40))) (inner := []) (ok := fun _ => True) (okp := fun _ => True) ?hr ?hp (fun _ hk => hk) trivial (Below.refl _ _) (Nat.le_refl _) (by simp) ?_; (case hd => rfl); (case hg => rfl); (case hr => first | (go_simp; done) | (go_simp; rfl)); (case hp => exact (Reps.none _ _)); intro v1 w1 ho1 hb hg_ hnew_; clear hg_ hnew_; have HO1 := Aside0.mk (Kd.R_lower ho1 (below_size HB.out)); have HB1 := Aside0.mk (below_step HB.out hb); clear hb ho1) | ((with_reducible refine gate_dst (N := 9) rfl ?_); refine box_event ?hg (N := 9) ?hd (cs := #[.int .i64 0, .int .i64 0, .int .i64 0, .int .i64 0, .int .i64 0]) (t := 59) ?hr ?_; (case hd => rfl); (case hg => rfl); (case hr => first | (go_simp; done) | (go_simp; rfl)); intro ga hg w3 hbox hb; have HO3 := Aside0.mk (Kd.R_below (Kd.R_elderB HO1.out ga (Nat.le_of_eq hg.symm)) hb); have HB3 := Aside0.mk (below_step HB1.out hb); have BA := Aside0.mk hbox; have GA := Aside0.mk ((by rw [hg]; exact HB1.out.size) : w.heap.size ≤ ga); clear hb hbox hg; have hcz0 : w3.cell? ⟨ga, 0, none⟩ = some (.int .i64 0) := (blk_cell BA.out 0).trans rfl; have hcz1 : w3.cell? ⟨ga, 1, none⟩ = some (.int .i64 0) := (blk_cell BA.out 1).trans rfl; have hcz2 : w3.cell? ⟨ga, 2, none⟩ = some (.int .i64 0) := (blk_cell BA.out 2).trans rfl; have hcz3 : w3.cell? ⟨ga, 3, none⟩ = some (.int .i64 0) := (blk_cell BA.out 3).trans rfl; have hcz4 : w3.cell? ⟨ga, 4, none⟩ = some (.int .i64 0) := (blk_cell BA.out 4).trans rfl; have hfz0 := blk_frozen BA.out 0; have hfz1 := blk_frozen BA.out 1; have hfz2 := blk_frozen BA.out 2; have hfz3 := blk_frozen BA.out 3; have hfz4 := blk_frozen BA.out 4))
            go_loopg [8, 36] l0.length (fun gg v8 v36 wr => ∃ x : Int, Aside0 (0 ≤ x ∧ x ≤ (l0.length : Int)) ∧ Aside0 (((l0.length : Int) - x).toNat ≤ gg) ∧ v36 = .int .i64 x ∧ Aside0 (wr.heap[ga]? = some (.cells (impl_TracesClean.arr (impl_TracesClean.on l0 l1 x.toNat)) 59 (0, 0))) ∧ Aside0 (Kd.R k40 40 wr w.heap.size (fun k_ => k_ ≠ ga) v8 ((List.range x.toNat).map (impl_TracesClean.clean l0 l1))) ∧ Aside0 (Below w.heap.size w wr))
            case atStart => exact ⟨0, ⟨by omega⟩, ⟨by omega⟩, rfl, ⟨blk_set (blk_set (blk_set (blk_set (blk_set BA.out 0 _) 1 _) 2 _) 3 _) 4 _⟩, ⟨Kd.R_far (p := ⟨ga, 4, none⟩) (Kd.R_far (p := ⟨ga, 3, none⟩) (Kd.R_far (p := ⟨ga, 2, none⟩) (Kd.R_far (p := ⟨ga, 1, none⟩) (Kd.R_far (p := ⟨ga, 0, none⟩) (Kd.R_mono HO3.out (fun _ h => h.2)) (fun _ hk => hk) _) (fun _ hk => hk) _) (fun _ hk => hk) _) (fun _ hk => hk) _) (fun _ hk => hk) _⟩, ⟨below_set (below_set (below_set (below_set (below_set HB3.out GA.out) GA.out) GA.out) GA.out) GA.out⟩⟩
            case round =>
              clear HO3 HB3 BA HO1 HB1 hcz0 hcz1 hcz2 hcz3 hcz4 hfz0 hfz1 hfz2 hfz3 hfz4
              obtain ⟨x, HX, HGG, rfl, BA, HO, HB⟩ := hrel
              by_cases hlt : x < (l0.length : Int)
              · have c3b1 : decide (x < (l0.length : Int)) = true := decide_eq_true hlt
                have HLT := Aside0.mk hlt
                have p1 : 0 ≤ x := HX.out.1
                obtain ⟨ad0, ea0, hx0, hx1, hx2⟩ := at_T40 (Kd.C_below HR0.out HB.out) x p1 hlt
                have hlt1 : x < (l1.length : Int) := by have := HLEN.out; omega
                obtain ⟨ad1, ea1, hy0⟩ := Kd.at_int (Kd.C_below HR1.out HB.out) x p1 hlt1
                cases ea0
                cases ea1
                have HE : Aside0 ((x + 1).toNat = x.toNat + 1) := ⟨by omega⟩
                have HM : Aside0 (0 ≤ (rd_T40 l0 x).f0 ∧ (rd_T40 l0 x).f0 < 5) := ⟨by
                  have hx : x.toNat < l0.length := by omega
                  have e : rd_T40 l0 x = l0[x.toNat] := by
                    show l0.getD x.toNat z40 = _
                    rw [List.getD_eq_getElem?_getD, List.getElem?_eq_getElem hx, Option.getD_some]
                  rw [e]
                  exact HL.out.2 _ (List.getElem_mem hx)⟩
                have ew : wrap64 (x + 1) = x + 1 := by unfold wrap64; omega
                have EW := Aside0.mk ew
                clear ew
                replace p1 := eq_true p1
                replace hlt := eq_true hlt
                replace hlt1 := eq_true hlt1
                have HP : Aside0 ((List.range (x + 1).toNat).map (impl_TracesClean.clean l0 l1) = (List.range x.toNat).map (impl_TracesClean.clean l0 l1) ++ [impl_TracesClean.clean l0 l1 x.toNat]) := ⟨by rw [HE.out, List.range_succ, List.map_append]; rfl⟩
                have HQ : Aside0 (((List.range x.toNat).map (impl_TracesClean.clean l0 l1)).length ≤ l0.length) := ⟨by rw [List.length_map, List.length_range]; have := HX.out; omega⟩
                have HT : Aside0 (impl_TracesClean.clean l0 l1 x.toNat = ⟨(rd_T40 l0 x).f0, (rd_T40 l0 x).f1, (Go.bits .andNot .i64 ((impl_TracesClean.on l0 l1 x.toNat).getD (rd_T40 l0 x).f0.toNat 0) (rd l1 x)) != 0⟩) := ⟨rfl⟩
                have HS : Aside0 (impl_TracesClean.on l0 l1 (x + 1).toNat = impl_TracesClean.after (impl_TracesClean.on l0 l1 x.toNat) (impl_TracesClean.clean l0 l1 x.toNat)) := ⟨by rw [HE.out]; rfl⟩
                generalize rd_T40 l0 x = y at hx0 hx1 hx2 HM HT
                generalize rd l1 x = av at hy0 HT
                generalize impl_TracesClean.clean l0 l1 x.toNat = n at HP HT HS
                generalize (List.range x.toNat).map (impl_TracesClean.clean l0 l1) = acc at HO HP HQ
                have HN : Aside0 ((impl_TracesClean.on l0 l1 x.toNat).length = 5) := ⟨impl_TracesClean.on_len l0 l1 _⟩
                generalize impl_TracesClean.on l0 l1 x.toNat = on at BA HT HS HN
                obtain ⟨t, al, cl0⟩ := y
                simp only at hx0 hx1 hx2
                have ht1 : 0 ≤ t := HM.out.1
                have ht2 : t < 5 := HM.out.2
                have HC : Aside0 (t.toNat < on.length) := ⟨by rw [HN.out]; omega⟩
                replace ht1 := eq_true ht1
                replace ht2 := eq_true ht2
                clear HM
                simp only at HT
                obtain ⟨m, HV⟩ : ∃ m : Int, Aside0 (on.getD t.toNat 0 = m) := ⟨_, ⟨rfl⟩⟩
                rw [HV.out] at HT
                have hxb : ad1.block < wr.heap.size := by have := World.block_lt_of_cell? _ _ hy0; first | rwa [add_block] at this | exact this
                have HXB := Aside0.mk hxb
                clear hxb
                cases hcl : (Go.bits .andNot .i64 m av != 0)
                · rw [hcl] at HT
                  obtain rfl := HT.out
                  have ES : Aside0 (impl_TracesClean.on l0 l1 (x + 1).toNat = impl_TracesClean.after on ⟨t, al, false⟩) := ⟨HS.out⟩
                  clear HS HT
                  go_wp2_with (first | ((with_reducible refine gate_dst (N := 11) rfl ?_); refine box_event ?hg (N := 11) ?hd (cs := #[.int .i64 0, .int .i64 0, .bool false]) (t := 40) ?hr ?_; (case hd => rfl); (case hg => rfl); (case hr => first | (go_simp; done) | (go_simp; rfl)); intro gb hg w5 hbox hb; have n0_ := Aside0.mk (Kd.R_below (Kd.R_elderB HO.out gb (Nat.le_of_eq hg.symm)) hb); have n1_ := Aside0.mk (below_step HB.out hb); have BK := Aside0.mk hbox; have GW := Aside0.mk ((by rw [hg]; exact HB.out.size) : w.heap.size ≤ gb); have n2_ := Aside0.mk (blk_below BA.out hb); have hne1 : (ga = gb) = False := eq_false (by have := blk_lt BA.out; omega); have hne2 : (gb = ga) = False := eq_false (by have := blk_lt BA.out; omega); have HNE : Aside0 (ad1.block ≠ gb) := ⟨by have := HXB.out; omega⟩; have hy5 := (hb.cell (World.block_lt_of_cell? _ _ hy0)).trans hy0; clear HO HB BA; have HO := n0_; have HB := n1_; have BA := n2_; clear n0_ n1_ n2_ hb hbox hg; have hcz0 : w5.cell? ⟨gb, 0, none⟩ = some (.int .i64 0) := (blk_cell BK.out 0).trans rfl; have hcz1 : w5.cell? ⟨gb, 1, none⟩ = some (.int .i64 0) := (blk_cell BK.out 1).trans rfl; have hcz2 : w5.cell? ⟨gb, 2, none⟩ = some (.bool false) := (blk_cell BK.out 2).trans rfl; have hfz0 := blk_frozen BK.out 0; have hfz1 := blk_frozen BK.out 1; have hfz2 := blk_frozen BK.out 2; have hcat : w5.cell? ⟨ga, t.toNat, none⟩ = some (.int .i64 m) := (blk_cell BA.out t.toNat).trans ((impl_TracesClean.arr_at on _ HC.out).trans (by rw [HV.out])); have hfat := blk_frozen BA.out t.toNat))
                  have h1_ := Aside0.mk (Kd.R_far (p := ⟨gb, 2, none⟩) (Kd.R_far (p := ⟨gb, 1, none⟩) (Kd.R_far (p := ⟨gb, 0, none⟩) HO.out (fun _ hk => hk.2) (.int .i64 t)) (fun _ hk => hk.2) (.int .i64 al)) (fun _ hk => hk.2) (.bool cl0))
                  have h2_ := Aside0.mk (below_set (j := 2) (v := .bool cl0) (below_set (j := 1) (v := .int .i64 al) (below_set (j := 0) (v := .int .i64 t) HB.out GW.out) GW.out) GW.out)
                  have h3_ : Aside0 ((((w5.setCell ⟨gb, 0, none⟩ (.int .i64 t)).setCell ⟨gb, 1, none⟩ (.int .i64 al)).setCell ⟨gb, 2, none⟩ (.bool cl0)).heap[gb]? = some (Obj.cells #[.int .i64 t, .int .i64 al, .bool cl0] 40 (0, 0))) := ⟨blk_set (blk_set (blk_set BK.out 0 (.int .i64 t)) 1 (.int .i64 al)) 2 (.bool cl0)⟩
                  have h4_ : Aside0 ((((w5.setCell ⟨gb, 0, none⟩ (.int .i64 t)).setCell ⟨gb, 1, none⟩ (.int .i64 al)).setCell ⟨gb, 2, none⟩ (.bool cl0)).heap[ga]? = some (Obj.cells (impl_TracesClean.arr on) 59 (0, 0))) := ⟨blk_far (p := ⟨gb, 2, none⟩) (blk_far (p := ⟨gb, 1, none⟩) (blk_far (p := ⟨gb, 0, none⟩) BA.out (of_eq_false hne1) (.int .i64 t)) (of_eq_false hne1) (.int .i64 al)) (of_eq_false hne1) (.bool cl0)⟩
                  have h5_ : Aside0 ((((w5.setCell ⟨gb, 0, none⟩ (.int .i64 t)).setCell ⟨gb, 1, none⟩ (.int .i64 al)).setCell ⟨gb, 2, none⟩ (.bool cl0)).cell? (ad1.add x.toNat) = some (.int .i64 av)) := ⟨(cell_far (p := ⟨gb, 2, none⟩) (by rw [add_block]; exact HNE.out) (.bool cl0)).trans ((cell_far (p := ⟨gb, 1, none⟩) (by rw [add_block]; exact HNE.out) (.int .i64 al)).trans ((cell_far (p := ⟨gb, 0, none⟩) (by rw [add_block]; exact HNE.out) (.int .i64 t)).trans hy5))⟩
                  clear hx0 hx1 hx2 hy0 hcz0 hcz1 hcz2 hfz0 hfz1 hfz2 hcat hfat HO HB BA BK
                  obtain ⟨w6, ew6⟩ : ∃ w6, w6 = ((w5.setCell ⟨gb, 0, none⟩ (.int .i64 t)).setCell ⟨gb, 1, none⟩ (.int .i64 al)).setCell ⟨gb, 2, none⟩ (.bool cl0) := ⟨_, rfl⟩
                  rw [← ew6] at h1_ h2_ h3_ h4_ h5_ ⊢
                  clear ew6
                  have hy0 := h5_.out
                  have hk0 : w6.cell? ⟨gb, 0, none⟩ = some (.int .i64 t) := (blk_cell h3_.out 0).trans rfl
                  have hk1 : w6.cell? ⟨gb, 1, none⟩ = some (.int .i64 al) := (blk_cell h3_.out 1).trans rfl
                  have hk2 : w6.cell? ⟨gb, 2, none⟩ = some (.bool cl0) := (blk_cell h3_.out 2).trans rfl
                  have hk3 : w6.cell? ⟨ga, t.toNat, none⟩ = some (.int .i64 m) := (blk_cell h4_.out t.toNat).trans ((impl_TracesClean.arr_at on _ HC.out).trans (by rw [HV.out]))
                  have hf0 := blk_frozen h3_.out 0
                  have hf1 := blk_frozen h3_.out 1
                  have hf2 := blk_frozen h3_.out 2
                  have hf3 := blk_frozen h4_.out t.toNat
                  go_region
                  all_goals try go_wp2
                  have g1_ := Aside0.mk (Kd.R_drew (Kd.R_far (p := ⟨gb, 2, none⟩) h1_.out (fun _ hk => hk.2) (.bool false)))
                  have g2_ := Aside0.mk (below_drew1 (below_set (j := 2) (v := .bool false) h2_.out GW.out))
                  have g3_ : Aside0 (((w6.setCell ⟨gb, 2, none⟩ (.bool false)).drew).heap[gb]? = some (Obj.cells #[.int .i64 t, .int .i64 al, .bool false] 40 (0, 0))) := ⟨blk_drew (blk_set h3_.out 2 (.bool false))⟩
                  have g4_ : Aside0 (((w6.setCell ⟨gb, 2, none⟩ (.bool false)).drew).heap[ga]? = some (Obj.cells (impl_TracesClean.arr on) 59 (0, 0))) := ⟨blk_drew (blk_far (p := ⟨gb, 2, none⟩) h4_.out (of_eq_false hne1) (.bool false))⟩
                  clear h1_ h2_ h3_ h4_ h5_ hy0 hk0 hk1 hk2 hk3 hf0 hf1 hf2 hf3
                  obtain ⟨w7, ew7⟩ : ∃ w7, w7 = (w6.setCell ⟨gb, 2, none⟩ (.bool false)).drew := ⟨_, rfl⟩
                  rw [← ew7] at g1_ g2_ g3_ g4_ ⊢
                  clear ew7
                  have EV : Aside0 (on.getD t.toNat 0 = m) := ⟨HV.out⟩
                  have ET : Aside0 (impl_TracesClean.on l0 l1 (x + 1).toNat = on.set t.toNat (Go.bits .or .i64 m al)) := ⟨ES.out.trans (by show on.set t.toNat (Go.bits .or .i64 (on.getD t.toNat 0) al) = _; rw [EV.out])⟩
                  have hk0 : w7.cell? ⟨gb, 0, none⟩ = some (.int .i64 t) := (blk_cell g3_.out 0).trans rfl
                  have hk1 : w7.cell? ⟨gb, 1, none⟩ = some (.int .i64 al) := (blk_cell g3_.out 1).trans rfl
                  have hk2 : w7.cell? ⟨gb, 2, none⟩ = some (.bool false) := (blk_cell g3_.out 2).trans rfl
                  have hk3 : w7.cell? ⟨ga, t.toNat, none⟩ = some (.int .i64 m) := (blk_cell g4_.out t.toNat).trans ((impl_TracesClean.arr_at on _ (by first | exact HC.out | (rw [List.length_set]; exact HC.out))).trans (by rw [EV.out]))
                  have hf0 := blk_frozen g3_.out 0
                  have hf1 := blk_frozen g3_.out 1
                  have hf2 := blk_frozen g3_.out 2
                  have hf3 := blk_frozen g4_.out t.toNat
                  have i1_ := Aside0.mk (Kd.R_drew (Kd.R_far (p := ⟨ga, t.toNat, none⟩) g1_.out (fun _ hk => hk.1) (.int .i64 (Go.bits .or .i64 m al))))
                  have i2_ := Aside0.mk (below_drew1 (below_set (j := t.toNat) (v := .int .i64 (Go.bits .or .i64 m al)) g2_.out GA.out))
                  have i3_ := Aside0.mk (blk_drew (blk_far (p := ⟨ga, t.toNat, none⟩) g3_.out (of_eq_false hne2) (.int .i64 (Go.bits .or .i64 m al))))
                  have i4_ : Aside0 (((w7.setCell ⟨ga, t.toNat, none⟩ (.int .i64 (Go.bits .or .i64 m al))).drew).heap[ga]? = some (Obj.cells (impl_TracesClean.arr (on.set t.toNat (Go.bits .or .i64 m al))) 59 (0, 0))) := ⟨blk_drew (by have h_ := blk_set g4_.out t.toNat (.int .i64 (Go.bits .or .i64 m al)); rw [impl_TracesClean.arr_set] at h_; exact h_)⟩
                  go_region
                  all_goals go_wp2_with (first | ((with_reducible refine gate_builtin (b := .append) (xs := #[.tmp 65, .tmp 67]) rfl ?_); at_builtin; refine Kd.R_append k40 (w0 := w) w.heap.size rfl (.tmp 65) (.tmp 67) 25 40 (.agg #[(.int .i64 0), (.int .i64 0), (.bool false)]) 24 rfl Try.underlying25 info40 rfl (by decide) (by omega) u8 acc (⟨t, al, false⟩ : S40) [.int .i64 t, .int .i64 al, .bool false] (fun k_ => k_ ≠ ga ∧ k_ ≠ gb) (fun _ => False) rfl (by first | (go_simp; done) | (go_simp; rfl)) (k40_mkM _ _ _ (⟨t, al, false⟩ : S40)) (fun _ hk => hk.elim) (fun k_ hk => by have := blk_lt i3_.out; have := blk_lt i4_.out; omega) i1_.out i2_.out i2_.out.size (by have := HL.out; have := HQ.out; omega) ?_; intro v9 w9 ho hb hg hat; have HO9 := Aside0.mk ho; have HB9 := Aside0.mk hb; have BA9 := Aside0.mk (blk_grown i4_.out hg (Kd.R_away i1_.out (fun _ hk => hk.1))); clear ho hb hg hat))
                  go_roundg ((l0.length : Int) - (x + 1)).toNat
                  case measure => have := HX.out; have := HGG.out; have := HLT.out; omega
                  case rel => exact ⟨x + 1, ⟨by have := HX.out; have := HLT.out; omega⟩, ⟨Nat.le_refl _⟩, by first | rfl | (rw [EW.out]; done), ⟨by rw [ET.out]; exact BA9.out⟩, ⟨by rw [HP.out]; exact Kd.R_mono HO9.out (fun _ h => h.1)⟩, HB9⟩
                · rw [hcl] at HT
                  obtain rfl := HT.out
                  have ES : Aside0 (impl_TracesClean.on l0 l1 (x + 1).toNat = impl_TracesClean.after on ⟨t, al, true⟩) := ⟨HS.out⟩
                  clear HS HT
                  go_wp2_with (first | ((with_reducible refine gate_dst (N := 11) rfl ?_); refine box_event ?hg (N := 11) ?hd (cs := #[.int .i64 0, .int .i64 0, .bool false]) (t := 40) ?hr ?_; (case hd => rfl); (case hg => rfl); (case hr => first | (go_simp; done) | (go_simp; rfl)); intro gb hg w5 hbox hb; have n0_ := Aside0.mk (Kd.R_below (Kd.R_elderB HO.out gb (Nat.le_of_eq hg.symm)) hb); have n1_ := Aside0.mk (below_step HB.out hb); have BK := Aside0.mk hbox; have GW := Aside0.mk ((by rw [hg]; exact HB.out.size) : w.heap.size ≤ gb); have n2_ := Aside0.mk (blk_below BA.out hb); have hne1 : (ga = gb) = False := eq_false (by have := blk_lt BA.out; omega); have hne2 : (gb = ga) = False := eq_false (by have := blk_lt BA.out; omega); have HNE : Aside0 (ad1.block ≠ gb) := ⟨by have := HXB.out; omega⟩; have hy5 := (hb.cell (World.block_lt_of_cell? _ _ hy0)).trans hy0; clear HO HB BA; have HO := n0_; have HB := n1_; have BA := n2_; clear n0_ n1_ n2_ hb hbox hg; have hcz0 : w5.cell? ⟨gb, 0, none⟩ = some (.int .i64 0) := (blk_cell BK.out 0).trans rfl; have hcz1 : w5.cell? ⟨gb, 1, none⟩ = some (.int .i64 0) := (blk_cell BK.out 1).trans rfl; have hcz2 : w5.cell? ⟨gb, 2, none⟩ = some (.bool false) := (blk_cell BK.out 2).trans rfl; have hfz0 := blk_frozen BK.out 0; have hfz1 := blk_frozen BK.out 1; have hfz2 := blk_frozen BK.out 2; have hcat : w5.cell? ⟨ga, t.toNat, none⟩ = some (.int .i64 m) := (blk_cell BA.out t.toNat).trans ((impl_TracesClean.arr_at on _ HC.out).trans (by rw [HV.out])); have hfat := blk_frozen BA.out t.toNat))
                  have h1_ := Aside0.mk (Kd.R_far (p := ⟨gb, 2, none⟩) (Kd.R_far (p := ⟨gb, 1, none⟩) (Kd.R_far (p := ⟨gb, 0, none⟩) HO.out (fun _ hk => hk.2) (.int .i64 t)) (fun _ hk => hk.2) (.int .i64 al)) (fun _ hk => hk.2) (.bool cl0))
                  have h2_ := Aside0.mk (below_set (j := 2) (v := .bool cl0) (below_set (j := 1) (v := .int .i64 al) (below_set (j := 0) (v := .int .i64 t) HB.out GW.out) GW.out) GW.out)
                  have h3_ : Aside0 ((((w5.setCell ⟨gb, 0, none⟩ (.int .i64 t)).setCell ⟨gb, 1, none⟩ (.int .i64 al)).setCell ⟨gb, 2, none⟩ (.bool cl0)).heap[gb]? = some (Obj.cells #[.int .i64 t, .int .i64 al, .bool cl0] 40 (0, 0))) := ⟨blk_set (blk_set (blk_set BK.out 0 (.int .i64 t)) 1 (.int .i64 al)) 2 (.bool cl0)⟩
                  have h4_ : Aside0 ((((w5.setCell ⟨gb, 0, none⟩ (.int .i64 t)).setCell ⟨gb, 1, none⟩ (.int .i64 al)).setCell ⟨gb, 2, none⟩ (.bool cl0)).heap[ga]? = some (Obj.cells (impl_TracesClean.arr on) 59 (0, 0))) := ⟨blk_far (p := ⟨gb, 2, none⟩) (blk_far (p := ⟨gb, 1, none⟩) (blk_far (p := ⟨gb, 0, none⟩) BA.out (of_eq_false hne1) (.int .i64 t)) (of_eq_false hne1) (.int .i64 al)) (of_eq_false hne1) (.bool cl0)⟩
                  have h5_ : Aside0 ((((w5.setCell ⟨gb, 0, none⟩ (.int .i64 t)).setCell ⟨gb, 1, none⟩ (.int .i64 al)).setCell ⟨gb, 2, none⟩ (.bool cl0)).cell? (ad1.add x.toNat) = some (.int .i64 av)) := ⟨(cell_far (p := ⟨gb, 2, none⟩) (by rw [add_block]; exact HNE.out) (.bool cl0)).trans ((cell_far (p := ⟨gb, 1, none⟩) (by rw [add_block]; exact HNE.out) (.int .i64 al)).trans ((cell_far (p := ⟨gb, 0, none⟩) (by rw [add_block]; exact HNE.out) (.int .i64 t)).trans hy5))⟩
                  clear hx0 hx1 hx2 hy0 hcz0 hcz1 hcz2 hfz0 hfz1 hfz2 hcat hfat HO HB BA BK
                  obtain ⟨w6, ew6⟩ : ∃ w6, w6 = ((w5.setCell ⟨gb, 0, none⟩ (.int .i64 t)).setCell ⟨gb, 1, none⟩ (.int .i64 al)).setCell ⟨gb, 2, none⟩ (.bool cl0) := ⟨_, rfl⟩
                  rw [← ew6] at h1_ h2_ h3_ h4_ h5_ ⊢
                  clear ew6
                  have hy0 := h5_.out
                  have hk0 : w6.cell? ⟨gb, 0, none⟩ = some (.int .i64 t) := (blk_cell h3_.out 0).trans rfl
                  have hk1 : w6.cell? ⟨gb, 1, none⟩ = some (.int .i64 al) := (blk_cell h3_.out 1).trans rfl
                  have hk2 : w6.cell? ⟨gb, 2, none⟩ = some (.bool cl0) := (blk_cell h3_.out 2).trans rfl
                  have hk3 : w6.cell? ⟨ga, t.toNat, none⟩ = some (.int .i64 m) := (blk_cell h4_.out t.toNat).trans ((impl_TracesClean.arr_at on _ HC.out).trans (by rw [HV.out]))
                  have hf0 := blk_frozen h3_.out 0
                  have hf1 := blk_frozen h3_.out 1
                  have hf2 := blk_frozen h3_.out 2
                  have hf3 := blk_frozen h4_.out t.toNat
                  go_region
                  all_goals try go_wp2
                  have g1_ := Aside0.mk (Kd.R_drew (Kd.R_far (p := ⟨ga, t.toNat, none⟩) (Kd.R_far (p := ⟨gb, 2, none⟩) h1_.out (fun _ hk => hk.2) (.bool true)) (fun _ hk => hk.1) (.int .i64 0)))
                  have g2_ := Aside0.mk (below_drew1 (below_set (j := t.toNat) (v := .int .i64 0) (below_set (j := 2) (v := .bool true) h2_.out GW.out) GA.out))
                  have g3_ : Aside0 ((((w6.setCell ⟨gb, 2, none⟩ (.bool true)).setCell ⟨ga, t.toNat, none⟩ (.int .i64 0)).drew).heap[gb]? = some (Obj.cells #[.int .i64 t, .int .i64 al, .bool true] 40 (0, 0))) := ⟨blk_drew (blk_far (p := ⟨ga, t.toNat, none⟩) (blk_set h3_.out 2 (.bool true)) (of_eq_false hne2) (.int .i64 0))⟩
                  have g4_ : Aside0 ((((w6.setCell ⟨gb, 2, none⟩ (.bool true)).setCell ⟨ga, t.toNat, none⟩ (.int .i64 0)).drew).heap[ga]? = some (Obj.cells (impl_TracesClean.arr (on.set t.toNat 0)) 59 (0, 0))) := ⟨blk_drew ((by have h_ := blk_set (blk_far (p := ⟨gb, 2, none⟩) h4_.out (of_eq_false hne1) (.bool true)) t.toNat (.int .i64 0); rw [impl_TracesClean.arr_set] at h_; exact h_))⟩
                  clear h1_ h2_ h3_ h4_ h5_ hy0 hk0 hk1 hk2 hk3 hf0 hf1 hf2 hf3
                  obtain ⟨w7, ew7⟩ : ∃ w7, w7 = ((w6.setCell ⟨gb, 2, none⟩ (.bool true)).setCell ⟨ga, t.toNat, none⟩ (.int .i64 0)).drew := ⟨_, rfl⟩
                  rw [← ew7] at g1_ g2_ g3_ g4_ ⊢
                  clear ew7
                  have EV : Aside0 ((on.set t.toNat 0).getD t.toNat 0 = 0) := ⟨by rw [List.getD_eq_getElem?_getD, List.getElem?_set_self HC.out]; rfl⟩
                  have ET : Aside0 (impl_TracesClean.on l0 l1 (x + 1).toNat = (on.set t.toNat 0).set t.toNat (Go.bits .or .i64 0 al)) := ⟨ES.out.trans (by show (on.set t.toNat 0).set t.toNat (Go.bits .or .i64 ((on.set t.toNat 0).getD t.toNat 0) al) = _; rw [EV.out])⟩
                  have hk0 : w7.cell? ⟨gb, 0, none⟩ = some (.int .i64 t) := (blk_cell g3_.out 0).trans rfl
                  have hk1 : w7.cell? ⟨gb, 1, none⟩ = some (.int .i64 al) := (blk_cell g3_.out 1).trans rfl
                  have hk2 : w7.cell? ⟨gb, 2, none⟩ = some (.bool true) := (blk_cell g3_.out 2).trans rfl
                  have hk3 : w7.cell? ⟨ga, t.toNat, none⟩ = some (.int .i64 0) := (blk_cell g4_.out t.toNat).trans ((impl_TracesClean.arr_at (on.set t.toNat 0) _ (by first | exact HC.out | (rw [List.length_set]; exact HC.out))).trans (by rw [EV.out]))
                  have hf0 := blk_frozen g3_.out 0
                  have hf1 := blk_frozen g3_.out 1
                  have hf2 := blk_frozen g3_.out 2
                  have hf3 := blk_frozen g4_.out t.toNat
                  have i1_ := Aside0.mk (Kd.R_drew (Kd.R_far (p := ⟨ga, t.toNat, none⟩) g1_.out (fun _ hk => hk.1) (.int .i64 (Go.bits .or .i64 0 al))))
                  have i2_ := Aside0.mk (below_drew1 (below_set (j := t.toNat) (v := .int .i64 (Go.bits .or .i64 0 al)) g2_.out GA.out))
                  have i3_ := Aside0.mk (blk_drew (blk_far (p := ⟨ga, t.toNat, none⟩) g3_.out (of_eq_false hne2) (.int .i64 (Go.bits .or .i64 0 al))))
                  have i4_ : Aside0 (((w7.setCell ⟨ga, t.toNat, none⟩ (.int .i64 (Go.bits .or .i64 0 al))).drew).heap[ga]? = some (Obj.cells (impl_TracesClean.arr ((on.set t.toNat 0).set t.toNat (Go.bits .or .i64 0 al))) 59 (0, 0))) := ⟨blk_drew (by have h_ := blk_set g4_.out t.toNat (.int .i64 (Go.bits .or .i64 0 al)); rw [impl_TracesClean.arr_set] at h_; exact h_)⟩
                  go_region
                  all_goals go_wp2_with (first | ((with_reducible refine gate_builtin (b := .append) (xs := #[.tmp 65, .tmp 67]) rfl ?_); at_builtin; refine Kd.R_append k40 (w0 := w) w.heap.size rfl (.tmp 65) (.tmp 67) 25 40 (.agg #[(.int .i64 0), (.int .i64 0), (.bool false)]) 24 rfl Try.underlying25 info40 rfl (by decide) (by omega) u8 acc (⟨t, al, true⟩ : S40) [.int .i64 t, .int .i64 al, .bool true] (fun k_ => k_ ≠ ga ∧ k_ ≠ gb) (fun _ => False) rfl (by first | (go_simp; done) | (go_simp; rfl)) (k40_mkM _ _ _ (⟨t, al, true⟩ : S40)) (fun _ hk => hk.elim) (fun k_ hk => by have := blk_lt i3_.out; have := blk_lt i4_.out; omega) i1_.out i2_.out i2_.out.size (by have := HL.out; have := HQ.out; omega) ?_; intro v9 w9 ho hb hg hat; have HO9 := Aside0.mk ho; have HB9 := Aside0.mk hb; have BA9 := Aside0.mk (blk_grown i4_.out hg (Kd.R_away i1_.out (fun _ hk => hk.1))); clear ho hb hg hat))
                  go_roundg ((l0.length : Int) - (x + 1)).toNat
                  case measure => have := HX.out; have := HGG.out; have := HLT.out; omega
                  case rel => exact ⟨x + 1, ⟨by have := HX.out; have := HLT.out; omega⟩, ⟨Nat.le_refl _⟩, by first | rfl | (rw [EW.out]; done), ⟨by rw [ET.out]; exact BA9.out⟩, ⟨by rw [HP.out]; exact Kd.R_mono HO9.out (fun _ h => h.1)⟩, HB9⟩
              · have c3b1 : decide (x < (l0.length : Int)) = false := decide_eq_false hlt
                have HE : Aside0 (x.toNat = l0.length) := ⟨by have := HX.out; omega⟩
                clear hlt
                go_wp2
                go_ret2
                refine ⟨_, rfl, ?_, HB.out⟩
                have := HO.out
                rw [HE.out] at this
                exact Kd.R_mono this (fun _ _ => trivial)
          · rw [if_neg hl] at h
            cases h
    · rw [if_neg hlen] at h
      obtain ⟨rfl, rfl⟩ : [] = r1 ∧ false = r2 := by simpa using h
      clear h
      have hle : ((l1.length : Int) != (l0.length : Int)) = true := by simp; omega
      clear hlen
      go_enter Try.func32, Try.ntmps32
      go_wp2_with fail
      refine (impl_UsesValid.calls k A0 c0 l0 true _ (Kd.C_below HR0.out HB.out) HC0.out HG.out).mono ?_
      rintro e w2 ⟨rfl, hb2⟩
      have HB2 := Aside0.mk (below_step HB.out hb2)
      clear hb2
      go_wp2
      go_ret2
      exact ⟨_, rfl, Kd.R_nil _ _ _ _ _, HB2.out⟩

/-! ### spec_l3Meet: function 47 -/
def spec_l3Meet.l0 : Nat → Int → Int → Int → Int → Option (Int)
 | 0, _, _, _, _ => none
 | k + 1, x0, x1, x5, x6 => if x6 < 8 then ((spec_l3Has.f k x0 x6).bind fun t418 => (if t418 = true then ((spec_l3Has.f k x1 x6).bind fun t419 => (if t419 = true then ((spec_l3Weight.f k x6).bind fun t420 => (spec_l3Meet.l0 k x0 x1 (wrap64 (x5 + t420)) (wrap64 (x6 + 1)))) else (spec_l3Meet.l0 k x0 x1 x5 (wrap64 (x6 + 1))))) else (spec_l3Meet.l0 k x0 x1 x5 (wrap64 (x6 + 1))))) else (some x5)
def spec_l3Meet.f (k : Nat) (a0 : Int) (a1 : Int) : Option (Int) := spec_l3Meet.l0 k a0 a1 0 0
theorem spec_l3Meet.mono_l : ∀ k, (∀ y0 y1 y2 y3, LeO (spec_l3Meet.l0 k y0 y1 y2 y3) (spec_l3Meet.l0 (k + 1) y0 y1 y2 y3))
 | 0 => fun _ _ _ _ r h => by simp [spec_l3Meet.l0] at h
 | k + 1 => by
  have ih0 := spec_l3Meet.mono_l k
  ·intro y0 y1 y2 y3
   unfold spec_l3Meet.l0
   repeat' first
   | (with_reducible exact ih0 _ _ _ _)
   | (with_reducible exact spec_l3Has.mono _ _ _)
   | (with_reducible exact spec_l3Weight.mono _ _)
   | (with_reducible exact LeO.refl _)
   | (with_reducible exact LeO.none _)
   | (with_reducible refine LeO.ite ?_ ?_)
   | (with_reducible refine LeO.bind ?_ (fun _ => ?_))
   | exact ih0 _ _ _ _
   | exact spec_l3Has.mono _ _ _
   | exact spec_l3Weight.mono _ _
   | exact LeO.none _
   | refine LeO.ite ?_ ?_
   | refine LeO.bind ?_ (fun _ => ?_)
theorem spec_l3Meet.mono : ∀ a0 a1 k, LeO (spec_l3Meet.f k a0 a1) (spec_l3Meet.f (k + 1) a0 a1) := by
 intro a0 a1 k
 have ih0 := spec_l3Meet.mono_l k
 unfold spec_l3Meet.f
 repeat' first
   | (with_reducible exact ih0 _ _ _ _)
   | (with_reducible exact spec_l3Has.mono _ _ _)
   | (with_reducible exact spec_l3Weight.mono _ _)
   | (with_reducible exact LeO.refl _)
   | (with_reducible exact LeO.none _)
   | (with_reducible refine LeO.ite ?_ ?_)
   | (with_reducible refine LeO.bind ?_ (fun _ => ?_))
   | exact ih0 _ _ _ _
   | exact spec_l3Has.mono _ _ _
   | exact spec_l3Weight.mono _ _
   | exact LeO.none _
   | refine LeO.ite ?_ ?_
   | refine LeO.bind ?_ (fun _ => ?_)
set_option maxHeartbeats 8000000 in
set_option maxRecDepth 100000 in
theorem spec_l3Meet.calls0 (k : Nat) (a0 : Int) (a1 : Int) (r : Int) (w : World) (h : spec_l3Meet.f k a0 a1 = some r) :
  Calls Try.prog 47 #[.int .i64 a0, .int .i64 a1] w fun e w' => e = .returned (.int .i64 r) ∧ Drawn0 w w' := by
 have H : (spec_l3Meet.l0 k a0 a1 0 0) = some r := h
 clear h
 have H' := Aside0.mk H
 clear H
 go_enter Try.func47, Try.ntmps47
 go_wp2
 go_loopg [5, 6] k (fun kq v5 v6 w' => ∃ (x5_1 : Int) (x6_1 : Int), v5 = .int .i64 x5_1 ∧ v6 = .int .i64 x6_1 ∧ Aside0 (spec_l3Meet.l0 kq a0 a1 x5_1 x6_1 = some r) ∧ Aside0 (kq ≤ k) ∧ Drawn0 w w')
 case atStart => exact ⟨(0), (0), pF, pF, H', ⟨Nat.le_refl _⟩, by repeat (first | exact Drawn0.refl _ | apply Drawn0.step)⟩
 case round =>
  clear H'
  try clear p2
  obtain ⟨x5_1, x6_1, rfl, rfl, HA, HK1, ⟨m1, rfl⟩⟩ := hrel
  cases gk with
  | zero => exact absurd HA.out (by simp [spec_l3Meet.l0])
  | succ k1 =>
   have H := HA.out
   clear HA
   simp only [spec_l3Meet.l0] at H
   by_cases c3 : x6_1 < 8
   ·rw [if_pos c3] at H
    have c3b0 : decide (x6_1 < 8) = true := decide_eq_true c3
    clear c3
    replace H := Option.bind_eq_some_iff.mp H
    obtain ⟨t418, A40, H⟩ := H
    replace H : (if t418 = true then ((spec_l3Has.f k1 a1 x6_1).bind fun t419 => (if t419 = true then ((spec_l3Weight.f k1 x6_1).bind fun t420 => (spec_l3Meet.l0 k1 a0 a1 (wrap64 (x5_1 + t420)) (wrap64 (x6_1 + 1)))) else (spec_l3Meet.l0 k1 a0 a1 x5_1 (wrap64 (x6_1 + 1))))) else (spec_l3Meet.l0 k1 a0 a1 x5_1 (wrap64 (x6_1 + 1)))) = some r := H
    have A4 := Aside0.mk A40
    clear A40
    by_cases c5 : t418 = true
    ·subst c5
     have H1 : ((spec_l3Has.f k1 a1 x6_1).bind fun t419 => (if t419 = true then ((spec_l3Weight.f k1 x6_1).bind fun t420 => (spec_l3Meet.l0 k1 a0 a1 (wrap64 (x5_1 + t420)) (wrap64 (x6_1 + 1)))) else (spec_l3Meet.l0 k1 a0 a1 x5_1 (wrap64 (x6_1 + 1))))) = some r := by rw [if_pos rfl] at H; exact H
     clear H
     have H := H1
     clear H1
     replace H := Option.bind_eq_some_iff.mp H
     obtain ⟨t419, A60, H⟩ := H
     replace H : (if t419 = true then ((spec_l3Weight.f k1 x6_1).bind fun t420 => (spec_l3Meet.l0 k1 a0 a1 (wrap64 (x5_1 + t420)) (wrap64 (x6_1 + 1)))) else (spec_l3Meet.l0 k1 a0 a1 x5_1 (wrap64 (x6_1 + 1)))) = some r := H
     have A6 := Aside0.mk A60
     clear A60
     by_cases c7 : t419 = true
     ·subst c7
      have H1 : ((spec_l3Weight.f k1 x6_1).bind fun t420 => (spec_l3Meet.l0 k1 a0 a1 (wrap64 (x5_1 + t420)) (wrap64 (x6_1 + 1)))) = some r := by rw [if_pos rfl] at H; exact H
      clear H
      have H := H1
      clear H1
      replace H := Option.bind_eq_some_iff.mp H
      obtain ⟨t420, A80, H⟩ := H
      replace H : (spec_l3Meet.l0 k1 a0 a1 (wrap64 (x5_1 + t420)) (wrap64 (x6_1 + 1))) = some r := H
      have A8 := Aside0.mk A80
      clear A80
      have H' := Aside0.mk H
      clear H
      go_wp2_with (first | ((with_reducible refine gate_callee (f := 51) rfl ?_); refine goesL_ (some 13) rfl rfl Try.func51 pL rfl #[.int .i64 a0, .int .i64 x6_1] rfl pM ?_; (with_reducible refine (spec_l3Has.calls k1 a0 x6_1 true _ A4.out).mono ?_); rintro e w' ⟨rfl, ⟨nd, rfl⟩⟩; refine ⟨_, rfl, ?_⟩) | (go_at_call 51; (with_reducible refine (spec_l3Has.calls k1 a1 x6_1 true _ A6.out).mono ?_); rintro e w' ⟨rfl, ⟨nd, rfl⟩⟩) | ((with_reducible refine gate_callee (f := 50) rfl ?_); refine goesL_ (some 21) rfl rfl Try.func50 pL rfl #[.int .i64 x6_1] rfl pM ?_; (with_reducible refine (spec_l3Weight.calls k1 x6_1 t420 _ A8.out).mono ?_); rintro e w' ⟨rfl, ⟨nd, rfl⟩⟩; refine ⟨_, rfl, ?_⟩))
      go_roundg k1
      case measure => have := HK1.out; omega
      case rel => exact ⟨(wrap64 (x5_1 + t420)), (wrap64 (x6_1 + 1)), pF, pF, H', ⟨by have := HK1.out; omega⟩, by repeat (first | exact Drawn0.refl _ | apply Drawn0.step)⟩
     ·replace c7 := Bool.eq_false_iff.mpr c7
      subst c7
      have H1 : (spec_l3Meet.l0 k1 a0 a1 x5_1 (wrap64 (x6_1 + 1))) = some r := by rw [if_neg (show ¬ (false = true) by decide)] at H; exact H
      clear H
      have H := H1
      clear H1
      have H' := Aside0.mk H
      clear H
      go_wp2_with (first | ((with_reducible refine gate_callee (f := 51) rfl ?_); refine goesL_ (some 13) rfl rfl Try.func51 pL rfl #[.int .i64 a0, .int .i64 x6_1] rfl pM ?_; (with_reducible refine (spec_l3Has.calls k1 a0 x6_1 true _ A4.out).mono ?_); rintro e w' ⟨rfl, ⟨nd, rfl⟩⟩; refine ⟨_, rfl, ?_⟩) | (go_at_call 51; (with_reducible refine (spec_l3Has.calls k1 a1 x6_1 false _ A6.out).mono ?_); rintro e w' ⟨rfl, ⟨nd, rfl⟩⟩))
      go_roundg k1
      case measure => have := HK1.out; omega
      case rel => exact ⟨(x5_1), (wrap64 (x6_1 + 1)), pF, pF, H', ⟨by have := HK1.out; omega⟩, by repeat (first | exact Drawn0.refl _ | apply Drawn0.step)⟩
    ·replace c5 := Bool.eq_false_iff.mpr c5
     subst c5
     have H1 : (spec_l3Meet.l0 k1 a0 a1 x5_1 (wrap64 (x6_1 + 1))) = some r := by rw [if_neg (show ¬ (false = true) by decide)] at H; exact H
     clear H
     have H := H1
     clear H1
     have H' := Aside0.mk H
     clear H
     go_wp2_with (first | ((with_reducible refine gate_callee (f := 51) rfl ?_); refine goesL_ (some 13) rfl rfl Try.func51 pL rfl #[.int .i64 a0, .int .i64 x6_1] rfl pM ?_; (with_reducible refine (spec_l3Has.calls k1 a0 x6_1 false _ A4.out).mono ?_); rintro e w' ⟨rfl, ⟨nd, rfl⟩⟩; refine ⟨_, rfl, ?_⟩))
     go_roundg k1
     case measure => have := HK1.out; omega
     case rel => exact ⟨(x5_1), (wrap64 (x6_1 + 1)), pF, pF, H', ⟨by have := HK1.out; omega⟩, by repeat (first | exact Drawn0.refl _ | apply Drawn0.step)⟩
   ·rw [if_neg c3] at H
    have c3b0 : decide (x6_1 < 8) = false := decide_eq_false c3
    clear c3
    obtain rfl := Option.some.inj H
    go_wp2
    go_ret
    exact ⟨pF, by repeat (first | exact Drawn0.refl _ | apply Drawn0.step)⟩

theorem spec_l3Meet.calls (k : Nat) (a0 : Int) (a1 : Int) (r : Int) (w : World) (h : spec_l3Meet.f k a0 a1 = some r) :
  Calls Try.prog 47 #[.int .i64 a0, .int .i64 a1] w fun e w' => e = .returned (.int .i64 r) ∧ Below w.heap.size w w' :=
 (spec_l3Meet.calls0 k a0 a1 r w h).mono fun _ _ ⟨h1, h2⟩ => ⟨h1, h2.below⟩

/-! ### spec_TracesClean: function 33 -/
mutual
def spec_TracesClean.j0 : Nat → List (S40) → List Int → Bool → Option ((List (S40)) × Bool)
 | 0, _, _, _ => none
 | k + 1, x0, x1, x19 => if x19 = true then (some ((([] : List (S40))), false)) else (spec_TracesClean.l0 k x0 x1 (([] : List (S40))) 0)
def spec_TracesClean.l0 : Nat → List (S40) → List Int → List (S40) → Int → Option ((List (S40)) × Bool)
 | 0, _, _, _, _ => none
 | k + 1, x0, x1, x6, x7 => if x7 < (x0.length : Int) then (if 0 ≤ x7 then (if x7 < (x1.length : Int) then ((spec_l3Set.f (rd x1 x7)).bind fun t429 => (if t429 = true then ((spec_l13Left.f k x6 x7 ((rd_T40 x0 x7).f0)).bind fun t432 => ((spec_l3Meet.f k t432 (rd x1 x7)).bind fun t434 => (if x6.length < 5864062014805 then (spec_TracesClean.l0 k x0 x1 (x6 ++ [(⟨(rd_T40 x0 x7).f0, (rd_T40 x0 x7).f1, (t434 != t432)⟩ : S40)]) (wrap64 (x7 + 1))) else (none)))) else (some ((([] : List (S40))), false)))) else (none)) else (none)) else (some (x6, true))
end
def spec_TracesClean.f (k : Nat) (l0 : List (S40)) (l1 : List Int) : Option ((List (S40)) × Bool) := (spec_UsesValid.f k l0).bind fun t421 => (if t421 = true then (spec_TracesClean.j0 k l0 l1 ((l1.length : Int) != (l0.length : Int))) else (spec_TracesClean.j0 k l0 l1 true))
theorem spec_TracesClean.mono_l : ∀ k, (∀ y0 y1 y2, LeO (spec_TracesClean.j0 k y0 y1 y2) (spec_TracesClean.j0 (k + 1) y0 y1 y2)) ∧ (∀ y0 y1 y2 y3, LeO (spec_TracesClean.l0 k y0 y1 y2 y3) (spec_TracesClean.l0 (k + 1) y0 y1 y2 y3))
 | 0 => ⟨fun _ _ _ r h => by simp [spec_TracesClean.j0] at h, fun _ _ _ _ r h => by simp [spec_TracesClean.l0] at h⟩
 | k + 1 => by
  obtain ⟨ih0, ih1⟩ := spec_TracesClean.mono_l k
  refine ⟨?_, ?_⟩
  ·intro y0 y1 y2
   unfold spec_TracesClean.j0
   repeat' first
   | (with_reducible exact ih0 _ _ _)
   | (with_reducible exact ih1 _ _ _ _)
   | (with_reducible exact spec_UsesValid.mono _ _)
   | (with_reducible exact spec_l13Left.mono _ _ _ _)
   | (with_reducible exact spec_l3Meet.mono _ _ _)
   | (with_reducible exact LeO.refl _)
   | (with_reducible exact LeO.none _)
   | (with_reducible refine LeO.ite ?_ ?_)
   | (with_reducible refine LeO.bind ?_ (fun _ => ?_))
   | exact ih0 _ _ _
   | exact ih1 _ _ _ _
   | exact spec_UsesValid.mono _ _
   | exact spec_l13Left.mono _ _ _ _
   | exact spec_l3Meet.mono _ _ _
   | exact LeO.none _
   | refine LeO.ite ?_ ?_
   | refine LeO.bind ?_ (fun _ => ?_)
  ·intro y0 y1 y2 y3
   unfold spec_TracesClean.l0
   repeat' first
   | (with_reducible exact ih0 _ _ _)
   | (with_reducible exact ih1 _ _ _ _)
   | (with_reducible exact spec_UsesValid.mono _ _)
   | (with_reducible exact spec_l13Left.mono _ _ _ _)
   | (with_reducible exact spec_l3Meet.mono _ _ _)
   | (with_reducible exact LeO.refl _)
   | (with_reducible exact LeO.none _)
   | (with_reducible refine LeO.ite ?_ ?_)
   | (with_reducible refine LeO.bind ?_ (fun _ => ?_))
   | exact ih0 _ _ _
   | exact ih1 _ _ _ _
   | exact spec_UsesValid.mono _ _
   | exact spec_l13Left.mono _ _ _ _
   | exact spec_l3Meet.mono _ _ _
   | exact LeO.none _
   | refine LeO.ite ?_ ?_
   | refine LeO.bind ?_ (fun _ => ?_)
theorem spec_TracesClean.mono : ∀ a0 a1 k, LeO (spec_TracesClean.f k a0 a1) (spec_TracesClean.f (k + 1) a0 a1) := by
 intro a0 a1 k
 obtain ⟨ih0, ih1⟩ := spec_TracesClean.mono_l k
 unfold spec_TracesClean.f
 repeat' first
   | (with_reducible exact ih0 _ _ _)
   | (with_reducible exact ih1 _ _ _ _)
   | (with_reducible exact spec_UsesValid.mono _ _)
   | (with_reducible exact spec_l13Left.mono _ _ _ _)
   | (with_reducible exact spec_l3Meet.mono _ _ _)
   | (with_reducible exact LeO.refl _)
   | (with_reducible exact LeO.none _)
   | (with_reducible refine LeO.ite ?_ ?_)
   | (with_reducible refine LeO.bind ?_ (fun _ => ?_))
   | exact ih0 _ _ _
   | exact ih1 _ _ _ _
   | exact spec_UsesValid.mono _ _
   | exact spec_l13Left.mono _ _ _ _
   | exact spec_l3Meet.mono _ _ _
   | exact LeO.none _
   | refine LeO.ite ?_ ?_
   | refine LeO.bind ?_ (fun _ => ?_)
set_option maxHeartbeats 8000000 in
set_option maxRecDepth 100000 in
theorem spec_TracesClean.calls (k : Nat) (A0 : Option Addr) (c0 : Nat) (l0 : List (S40)) (A1 : Option Addr) (c1 : Nat) (l1 : List Int) (r1 : List (S40)) (r2 : Bool) (w : World) (hr0 : Kd.C k40 w A0 l0.length l0) (hc0 : l0.length ≤ c0) (hr1 : Kd.C (Kd.int .i64) w A1 l1.length l1) (hc1 : l1.length ≤ c1) (h : spec_TracesClean.f k l0 l1 = some (r1, r2)) :
  Calls Try.prog 33 #[.slice A0 l0.length c0, .slice A1 l1.length c1] w fun e w' => ∃ v0_ : Value, e = .returned (.tuple #[v0_, .bool r2]) ∧ Kd.R k40 40 w' w.heap.size (fun _ => True) v0_ r1 ∧ Below w.heap.size w w' := by
 have hu40 := Try.underlying40
 have HR0 := Aside0.mk hr0
 have HC0 := Aside0.mk hc0
 clear hr0 hc0
 have HR1 := Aside0.mk hr1
 have HC1 := Aside0.mk hc1
 clear hr1 hc1
 have HB := Aside0.mk (Below.refl w.heap.size w)
 have H : ((spec_UsesValid.f k l0).bind fun t421 => (if t421 = true then (spec_TracesClean.j0 k l0 l1 ((l1.length : Int) != (l0.length : Int))) else (spec_TracesClean.j0 k l0 l1 true))) = some (r1, r2) := h
 clear h
 have HC3 := Aside0.mk H
 clear H
 go_enter Try.func33, Try.ntmps33
 go_upto_region 1 with (fail)
 go_cut [19] (fun v19 wc => ∃ (kq : Nat) (x19_2 : Bool), v19 = .bool x19_2 ∧ Aside0 (spec_TracesClean.j0 kq l0 l1 x19_2 = some (r1, r2)) ∧ Aside0 (kq ≤ k) ∧ Aside0 (Below w.heap.size w wc))
 case first =>
  have H := HC3.out
  clear HC3
  replace H := Option.bind_eq_some_iff.mp H
  obtain ⟨t421, A40, H⟩ := H
  replace H : (if t421 = true then (spec_TracesClean.j0 k l0 l1 ((l1.length : Int) != (l0.length : Int))) else (spec_TracesClean.j0 k l0 l1 true)) = some (r1, r2) := H
  have A4 := Aside0.mk A40
  clear A40
  by_cases c5 : t421 = true
  ·subst c5
   have H1 : (spec_TracesClean.j0 k l0 l1 ((l1.length : Int) != (l0.length : Int))) = some (r1, r2) := by rw [if_pos rfl] at H; exact H
   clear H
   have H := H1
   clear H1
   have H' := Aside0.mk H
   clear H
   go_wp2_with (first | ((with_reducible refine gate_callee (f := 15) rfl ?_); refine goesL_ (some 11) rfl rfl Try.func15 pL rfl #[.slice A0 l0.length c0] rfl pM ?_; (with_reducible refine (spec_UsesValid.calls k _ _ l0 true _ ?side1 ?side2 A4.out).mono ?_); (case side1 => exact pS ((Kd.C_below HR0.out HB.out))); (case side2 => exact HC0.out); rintro e w' ⟨rfl, ⟨nd, rfl⟩⟩; refine ⟨_, rfl, ?_⟩))
   go_meet
   case rel => exact ⟨_, (((l1.length : Int) != (l0.length : Int))), pF, H', ⟨by first | omega | exact Nat.le_refl _⟩, ⟨pB⟩⟩
  ·replace c5 := Bool.eq_false_iff.mpr c5
   subst c5
   have H1 : (spec_TracesClean.j0 k l0 l1 true) = some (r1, r2) := by rw [if_neg (show ¬ (false = true) by decide)] at H; exact H
   clear H
   have H := H1
   clear H1
   have H' := Aside0.mk H
   clear H
   go_wp2_with (first | ((with_reducible refine gate_callee (f := 15) rfl ?_); refine goesL_ (some 11) rfl rfl Try.func15 pL rfl #[.slice A0 l0.length c0] rfl pM ?_; (with_reducible refine (spec_UsesValid.calls k _ _ l0 false _ ?side1 ?side2 A4.out).mono ?_); (case side1 => exact pS ((Kd.C_below HR0.out HB.out))); (case side2 => exact HC0.out); rintro e w' ⟨rfl, ⟨nd, rfl⟩⟩; refine ⟨_, rfl, ?_⟩))
   go_meet
   case rel => exact ⟨_, (true), pF, H', ⟨by first | omega | exact Nat.le_refl _⟩, ⟨pB⟩⟩
 case rest =>
  clear HC3
  try clear c1
  try clear p2
  try clear c3
  try clear c5
  obtain ⟨kq, x19_2, rfl, HA, HJ2, HB⟩ := hcut
  cases kq with
  | zero => exact absurd HA.out (by simp [spec_TracesClean.j0])
  | succ kj2 =>
   have H := HA.out
   clear HA
   simp only [spec_TracesClean.j0] at H
   by_cases c6 : x19_2 = true
   ·subst c6
    have H1 : (some ((([] : List (S40))), false)) = some (r1, r2) := by rw [if_pos rfl] at H; exact H
    clear H
    have H := H1
    clear H1
    obtain ⟨y422, hy422⟩ : ∃ y_ : List (S40), y_ = (([] : List (S40))) := ⟨_, rfl⟩
    replace H : (some (y422, false)) = some (r1, r2) := by first | (rw [hy422]; with_reducible exact H) | (have H2_ := (Option.bind_some _ _).symm.trans H; rw [hy422]; with_reducible exact H2_) | (have H2_ := (Option.bind_some _ _).symm.trans H; with_reducible exact H2_) | with_reducible exact H | (rw [hy422]; exact H) | exact H
    have Ny422 := Aside0.mk hy422
    clear hy422
    simp only [Option.some.injEq, Prod.mk.injEq] at H
    obtain ⟨rfl, rfl⟩ := H
    go_wp2_with (first | ((with_reducible refine gate_dst (N := 20) rfl ?_); (try (refine gate_guard (by rfl) ?_; dsimp only)); refine Kd.R_lit k40 _ 40 ?hg (N := 20) ?hd (xs := ([] : List (S40))) (inner := []) (ok := fun _ => True) (okp := fun _ => True) ?hr ?hp (fun _ hk => hk) trivial (Below.refl _ _) (Nat.le_refl _) (by simp) ?_; (case hd => rfl); (case hg => rfl); (case hr => first | (go_simp; done) | (go_simp; rfl)); (case hp => exact (Reps.none _ _)); intro v423 w7 ho8 hb hg_ hnew_; clear hg_ hnew_; (first | rw [← Ny422.out] at ho8 | (simp only [Int.reduceToNat] at ho8; rw [← Ny422.out] at ho8)); have n0_ := Aside0.mk (Kd.R_lower ho8 (below_size pB)); have n1_ := Aside0.mk (below_step pB hb); clear HB; have HO424 := n0_; have HB := n1_; clear n0_ n1_; clear hb ho8))
    go_ret2
    exact ⟨_, pE, pR HO424, pB⟩
   ·replace c6 := Bool.eq_false_iff.mpr c6
    subst c6
    have H1 : (spec_TracesClean.l0 kj2 l0 l1 (([] : List (S40))) 0) = some (r1, r2) := by rw [if_neg (show ¬ (false = true) by decide)] at H; exact H
    clear H
    have H := H1
    clear H1
    obtain ⟨y425, hy425⟩ : ∃ y_ : List (S40), y_ = (([] : List (S40))) := ⟨_, rfl⟩
    replace H : (spec_TracesClean.l0 kj2 l0 l1 y425 0) = some (r1, r2) := by first | (rw [hy425]; with_reducible exact H) | (have H2_ := (Option.bind_some _ _).symm.trans H; rw [hy425]; with_reducible exact H2_) | (have H2_ := (Option.bind_some _ _).symm.trans H; with_reducible exact H2_) | with_reducible exact H | (rw [hy425]; exact H) | exact H
    have Ny425 := Aside0.mk hy425
    clear hy425
    have H' := Aside0.mk H
    clear H
    go_wp2_with (first | ((with_reducible refine gate_dst (N := 21) rfl ?_); (try (refine gate_guard (by rfl) ?_; dsimp only)); refine Kd.R_lit k40 _ 40 ?hg (N := 21) ?hd (xs := ([] : List (S40))) (inner := []) (ok := fun _ => True) (okp := fun _ => True) ?hr ?hp (fun _ hk => hk) trivial (Below.refl _ _) (Nat.le_refl _) (by simp) ?_; (case hd => rfl); (case hg => rfl); (case hr => first | (go_simp; done) | (go_simp; rfl)); (case hp => exact (Reps.none _ _)); intro v426 w9 ho10 hb hg_ hnew_; clear hg_ hnew_; (first | rw [← Ny425.out] at ho10 | (simp only [Int.reduceToNat] at ho10; rw [← Ny425.out] at ho10)); have n0_ := Aside0.mk (Kd.R_lower ho10 (below_size pB)); have n1_ := Aside0.mk (below_step pB hb); clear HB; have HO427 := n0_; have HB := n1_; clear n0_ n1_; clear hb ho10))
    go_loopg [6, 7] kj2 (fun kq v6 v7 w' => ∃ (x6_2 : List (S40)) (x7_2 : Int), v7 = .int .i64 x7_2 ∧ Aside0 (spec_TracesClean.l0 kq l0 l1 x6_2 x7_2 = some (r1, r2)) ∧ Aside0 (kq ≤ kj2) ∧ Aside0 (Kd.R k40 40 w' w.heap.size (fun _ => True) v6 x6_2) ∧ Aside0 (Below w.heap.size w w'))
    case atStart => exact ⟨(y425), (0), pF, H', ⟨Nat.le_refl _⟩, ⟨pR HO427⟩, ⟨pB⟩⟩
    case round =>
     clear H'
     try clear c1
     try clear p2
     try clear c3
     try clear c5
     try clear c6
     try clear p2
     obtain ⟨x6_2, x7_2, rfl, HA, HK2, HO_6, HB⟩ := hrel
     cases gk with
     | zero => exact absurd HA.out (by simp [spec_TracesClean.l0])
     | succ k2 =>
      have H := HA.out
      clear HA
      simp only [spec_TracesClean.l0] at H
      by_cases c11 : x7_2 < (l0.length : Int)
      ·rw [if_pos c11] at H
       have c11b0 : decide (x7_2 < (l0.length : Int)) = true := decide_eq_true c11
       clear c11
       by_cases c12 : 0 ≤ x7_2
       ·rw [if_pos c12] at H
        have c12b0 : decide (0 ≤ x7_2) = true := decide_eq_true c12
        clear c12
        by_cases c13 : x7_2 < (l1.length : Int)
        ·rw [if_pos c13] at H
         have c13b0 : decide (x7_2 < (l1.length : Int)) = true := decide_eq_true c13
         clear c13
         replace H := Option.bind_eq_some_iff.mp H
         obtain ⟨t429, A140, H⟩ := H
         replace H : (if t429 = true then ((spec_l13Left.f k2 x6_2 x7_2 ((rd_T40 l0 x7_2).f0)).bind fun t432 => ((spec_l3Meet.f k2 t432 (rd l1 x7_2)).bind fun t434 => (if x6_2.length < 5864062014805 then (spec_TracesClean.l0 k2 l0 l1 (x6_2 ++ [(⟨(rd_T40 l0 x7_2).f0, (rd_T40 l0 x7_2).f1, (t434 != t432)⟩ : S40)]) (wrap64 (x7_2 + 1))) else (none)))) else (some ((([] : List (S40))), false))) = some (r1, r2) := H
         have A14 := Aside0.mk A140
         clear A140
         by_cases c15 : t429 = true
         ·subst c15
          have H1 : ((spec_l13Left.f k2 x6_2 x7_2 ((rd_T40 l0 x7_2).f0)).bind fun t432 => ((spec_l3Meet.f k2 t432 (rd l1 x7_2)).bind fun t434 => (if x6_2.length < 5864062014805 then (spec_TracesClean.l0 k2 l0 l1 (x6_2 ++ [(⟨(rd_T40 l0 x7_2).f0, (rd_T40 l0 x7_2).f1, (t434 != t432)⟩ : S40)]) (wrap64 (x7_2 + 1))) else (none)))) = some (r1, r2) := by rw [if_pos rfl] at H; exact H
          clear H
          have H := H1
          clear H1
          replace H := Option.bind_eq_some_iff.mp H
          obtain ⟨t432, A160, H⟩ := H
          replace H : ((spec_l3Meet.f k2 t432 (rd l1 x7_2)).bind fun t434 => (if x6_2.length < 5864062014805 then (spec_TracesClean.l0 k2 l0 l1 (x6_2 ++ [(⟨(rd_T40 l0 x7_2).f0, (rd_T40 l0 x7_2).f1, (t434 != t432)⟩ : S40)]) (wrap64 (x7_2 + 1))) else (none))) = some (r1, r2) := H
          have A16 := Aside0.mk A160
          clear A160
          replace H := Option.bind_eq_some_iff.mp H
          obtain ⟨t434, A170, H⟩ := H
          replace H : (if x6_2.length < 5864062014805 then (spec_TracesClean.l0 k2 l0 l1 (x6_2 ++ [(⟨(rd_T40 l0 x7_2).f0, (rd_T40 l0 x7_2).f1, (t434 != t432)⟩ : S40)]) (wrap64 (x7_2 + 1))) else (none)) = some (r1, r2) := H
          have A17 := Aside0.mk A170
          clear A170
          by_cases c18 : x6_2.length < 5864062014805
          ·rw [if_pos c18] at H
           have LMc18 := Aside0.mk c18
           clear c18
           obtain ⟨y435, hy435⟩ : ∃ y_ : List (S40), y_ = (x6_2 ++ [(⟨(rd_T40 l0 x7_2).f0, (rd_T40 l0 x7_2).f1, (t434 != t432)⟩ : S40)]) := ⟨_, rfl⟩
           replace H : (spec_TracesClean.l0 k2 l0 l1 y435 (wrap64 (x7_2 + 1))) = some (r1, r2) := by first | (rw [hy435]; with_reducible exact H) | (have H2_ := (Option.bind_some _ _).symm.trans H; rw [hy435]; with_reducible exact H2_) | (have H2_ := (Option.bind_some _ _).symm.trans H; with_reducible exact H2_) | with_reducible exact H | (rw [hy435]; exact H) | exact H
           have Ny435 := Aside0.mk hy435
           clear hy435
           have H' := Aside0.mk H
           clear H
           have p428 : 0 ≤ (x7_2 : Int) := of_decide_eq_true pA
           have q428 : x7_2 < (l1.length : Int) := of_decide_eq_true pA
           obtain ⟨ad428, e428, hx428_0⟩ := Kd.at_int HR1.out x7_2 p428 q428
           cases e428
           replace hx428_0 := (HB.out.cell (World.block_lt_of_cell? w _ hx428_0)).trans hx428_0
           replace p428 := eq_true p428
           replace q428 := eq_true q428
           go_wp2_with (first | ((with_reducible refine gate_callee (f := 38) rfl ?_); refine goesL_ (some 32) rfl rfl Try.func38 pL rfl #[.int .i64 (rd l1 x7_2)] rfl pM ?_; (with_reducible refine (spec_l3Set.calls (rd l1 x7_2) true _ A14.out).mono ?_); rintro e w' ⟨rfl, ⟨nd, rfl⟩⟩; refine ⟨_, rfl, ?_⟩; (try (rw [drewN_self wr]; generalize hq_ : World.drewN wr _ = wr; have n0_ : Aside0 (Kd.R k40 40 wr w.heap.size (fun _ => True) u6 x6_2) := ⟨by rw [← hq_]; exact (pR HO_6)⟩; have n1_ : Aside0 (Below w.heap.size w wr) := ⟨by rw [← hq_]; exact pB⟩; clear HO_6 HB hq_; have HO_6 := n0_; have HB := n1_; clear n0_ n1_)); have p430 : 0 ≤ (x7_2 : Int) := of_decide_eq_true pA; have q430 : x7_2 < (l0.length : Int) := of_decide_eq_true pA; obtain ⟨ad430, e430, hx430_0, hx430_1, hx430_2⟩ := at_T40 HR0.out x7_2 p430 q430; cases e430; replace hx430_0 := (HB.out.cell (World.block_lt_of_cell? w _ hx430_0)).trans hx430_0; replace hx430_1 := (HB.out.cell (World.block_lt_of_cell? w _ hx430_1)).trans hx430_1; replace hx430_2 := (HB.out.cell (World.block_lt_of_cell? w _ hx430_2)).trans hx430_2; replace p430 := eq_true p430; replace q430 := eq_true q430) | ((with_reducible refine gate_dst (N := 8) rfl ?_); (try (refine gate_guard (by rfl) ?_; dsimp only)); refine box_event ?hg (N := 8) ?hd (cs := #[.int .i64 0, .int .i64 0, .bool false]) (t := 40) ?hr ?_; (case hd => rfl); (case hg => rfl); (case hr => first | (go_simp; done) | (go_simp; rfl)); intro gb431 hg w19 hbox hb; have n0_ := Aside0.mk (Kd.R_below (Kd.R_elderB (pR HO_6) gb431 (Nat.le_of_eq hg.symm)) hb); have n1_ := Aside0.mk (below_step pB hb); have n2_ := Aside0.mk (hbox); have n3_ := Aside0.mk ((by rw [hg]; exact (below_size pB) : w.heap.size ≤ gb431)); have n4_ := Aside0.mk ((by rw [hg]; exact (below_size pB) : w.heap.size ≤ gb431)); clear HO_6; clear HB; have HO_6 := n0_; have HB := n1_; have BK431 := n2_; have GW431 := n3_; have GE431 := n4_; clear n0_ n1_ n2_ n3_ n4_; clear hb hbox hg; have hcz20_0 : w19.cell? ⟨gb431, 0, none⟩ = some (.int .i64 0) := (blk_cell BK431.out 0).trans rfl; have hcz20_1 : w19.cell? ⟨gb431, 1, none⟩ = some (.int .i64 0) := (blk_cell BK431.out 1).trans rfl; have hcz20_2 : w19.cell? ⟨gb431, 2, none⟩ = some (.bool false) := (blk_cell BK431.out 2).trans rfl; have hfz20_0 := blk_frozen BK431.out 0; have hfz20_1 := blk_frozen BK431.out 1; have hfz20_2 := blk_frozen BK431.out 2; obtain ⟨Ao21, co21, eo21⟩ := Kd.R_slice HO_6.out; subst eo21) | ((with_reducible refine gate_callee (f := 43) rfl ?_); refine goesL_ (some 43) rfl rfl Try.func43 pL rfl #[.slice Ao21 x6_2.length co21, .int .i64 x7_2, .int .i64 ((rd_T40 l0 x7_2).f0)] rfl pM ?_; (with_reducible refine (spec_l13Left.calls k2 _ _ x6_2 x7_2 ((rd_T40 l0 x7_2).f0) t432 _ ?side1 ?side2 A16.out).mono ?_); (case side1 => refine (Kd.R_reads' (e := 40) (base := w.heap.size) (ok := fun k_ => (True ∧ k_ ≠ gb431)) (n := x6_2.length) (c := co21) ?_).2.2; exact (by (with_reducible repeat (first | apply Kd.R_alloc | apply Kd.R_drewN | apply Kd.R_drew)); exact (Kd.R_mono (Kd.R_far (p := ⟨gb431, 2, none⟩) (Kd.R_far (p := ⟨gb431, 1, none⟩) (Kd.R_far (p := ⟨gb431, 0, none⟩) (Kd.R_mono HO_6.out (fun k_ hk => (⟨hk, hk.2⟩ : _ ∧ k_ ≠ gb431))) (fun _ hk => hk.2) (.int .i64 ((rd_T40 l0 x7_2).f0))) (fun _ hk => hk.2) (.int .i64 ((rd_T40 l0 x7_2).f1))) (fun _ hk => hk.2) (.bool ((rd_T40 l0 x7_2).f2))) (fun _ h_ => h_.1)))); (case side2 => exact (Kd.R_reads' HO_6.out).2.1); rintro e w' ⟨rfl, ⟨nd, rfl⟩⟩; refine ⟨_, rfl, ?_⟩; have p433 : 0 ≤ (x7_2 : Int) := of_decide_eq_true pA; have q433 : x7_2 < (l1.length : Int) := of_decide_eq_true pA; obtain ⟨ad433, e433, hx433_0⟩ := Kd.at_int HR1.out x7_2 p433 q433; obtain rfl : ad428 = ad433 := (by injection e433); have hn433_0 : ad428.block ≠ gb431 := Nat.ne_of_lt (Nat.lt_of_lt_of_le (by have := World.block_lt_of_cell? _ _ hx433_0; first | rwa [add_block] at this | exact this) GW431.out); have hn433_1 : ad428.block ≠ gb431 := Nat.ne_of_lt (Nat.lt_of_lt_of_le (by have := World.block_lt_of_cell? _ _ hx433_0; first | rwa [add_block] at this | exact this) GW431.out); have hn433_2 : ad428.block ≠ gb431 := Nat.ne_of_lt (Nat.lt_of_lt_of_le (by have := World.block_lt_of_cell? _ _ hx433_0; first | rwa [add_block] at this | exact this) GW431.out); replace hx433_0 := (HB.out.cell (World.block_lt_of_cell? w _ hx433_0)).trans hx433_0; replace hx433_0 := (cell_far (p := ⟨gb431, 0, none⟩) (by first | (rw [add_block]; exact hn433_0) | (show (Addr.add _ _).block ≠ _; rw [add_block]; exact hn433_0) | exact hn433_0) (.int .i64 ((rd_T40 l0 x7_2).f0))).trans hx433_0; replace hx433_0 := (cell_far (p := ⟨gb431, 1, none⟩) (by first | (rw [add_block]; exact hn433_1) | (show (Addr.add _ _).block ≠ _; rw [add_block]; exact hn433_1) | exact hn433_1) (.int .i64 ((rd_T40 l0 x7_2).f1))).trans hx433_0; replace hx433_0 := (cell_far (p := ⟨gb431, 2, none⟩) (by first | (rw [add_block]; exact hn433_2) | (show (Addr.add _ _).block ≠ _; rw [add_block]; exact hn433_2) | exact hn433_2) (.bool ((rd_T40 l0 x7_2).f2))).trans hx433_0; clear hn433_0; clear hn433_1; clear hn433_2; replace p433 := eq_true p433; replace q433 := eq_true q433) | ((with_reducible refine gate_callee (f := 47) rfl ?_); refine goesL_ (some 49) rfl rfl Try.func47 pL rfl #[.int .i64 t432, .int .i64 (rd l1 x7_2)] rfl pM ?_; (with_reducible refine (spec_l3Meet.calls k2 t432 (rd l1 x7_2) t434 _ A17.out).mono ?_); rintro e w22 ⟨rfl, hb⟩; refine ⟨_, rfl, ?_⟩; have n0_ := Aside0.mk (Kd.R_below (by (with_reducible repeat (first | apply Kd.R_alloc | apply Kd.R_drewN | apply Kd.R_drew)); exact (Kd.R_mono (Kd.R_far (p := ⟨gb431, 2, none⟩) (Kd.R_far (p := ⟨gb431, 1, none⟩) (Kd.R_far (p := ⟨gb431, 0, none⟩) (Kd.R_mono HO_6.out (fun k_ hk => (⟨hk, hk.2⟩ : _ ∧ k_ ≠ gb431))) (fun _ hk => hk.2) (.int .i64 ((rd_T40 l0 x7_2).f0))) (fun _ hk => hk.2) (.int .i64 ((rd_T40 l0 x7_2).f1))) (fun _ hk => hk.2) (.bool ((rd_T40 l0 x7_2).f2))) (fun _ h_ => h_.1))) hb); have n1_ := Aside0.mk (blk_below (g := gb431) (o := .cells #[.int .i64 ((rd_T40 l0 x7_2).f0), .int .i64 ((rd_T40 l0 x7_2).f1), .bool ((rd_T40 l0 x7_2).f2)] 40 (0, 0)) (by (with_reducible repeat (first | refine blk_drewN ?_ _ | refine blk_drew ?_ | refine blk_alloc ?_ _)); refine blk_put (cs := #[.int .i64 ((rd_T40 l0 x7_2).f0), .int .i64 ((rd_T40 l0 x7_2).f1), .bool false]) ?_ 2 _ rfl; (with_reducible repeat (first | refine blk_drewN ?_ _ | refine blk_drew ?_ | refine blk_alloc ?_ _)); refine blk_put (cs := #[.int .i64 ((rd_T40 l0 x7_2).f0), .int .i64 0, .bool false]) ?_ 1 _ rfl; (with_reducible repeat (first | refine blk_drewN ?_ _ | refine blk_drew ?_ | refine blk_alloc ?_ _)); refine blk_put (cs := #[.int .i64 0, .int .i64 0, .bool false]) ?_ 0 _ rfl; (with_reducible repeat (first | refine blk_drewN ?_ _ | refine blk_drew ?_ | refine blk_alloc ?_ _)); exact BK431.out) hb); have n2_ := Aside0.mk (below_step (pG GE431) hb); clear HO_6; clear BK431; clear HB; have HO_6 := n0_; have BK431 := n1_; have HB := n2_; clear n0_ n1_ n2_; (try clear hb); (try clear hb2); (try clear hk); (try clear hi); have hcz23_0 : w22.cell? ⟨gb431, 0, none⟩ = some (.int .i64 ((rd_T40 l0 x7_2).f0)) := (blk_cell BK431.out 0).trans rfl; have hcz23_1 : w22.cell? ⟨gb431, 1, none⟩ = some (.int .i64 ((rd_T40 l0 x7_2).f1)) := (blk_cell BK431.out 1).trans rfl; have hcz23_2 : w22.cell? ⟨gb431, 2, none⟩ = some (.bool ((rd_T40 l0 x7_2).f2)) := (blk_cell BK431.out 2).trans rfl; have hfz23_0 := blk_frozen BK431.out 0; have hfz23_1 := blk_frozen BK431.out 1; have hfz23_2 := blk_frozen BK431.out 2) | ((with_reducible refine gate_builtin (b := .append) (xs := #[.tmp 53, .tmp 55]) rfl ?_); (try (refine gate_guard (by rfl) ?_; dsimp only)); at_builtin; refine Kd.R_append k40 (w0 := w) w.heap.size rfl (.tmp 53) (.tmp 55) 25 40 (.agg #[(.int .i64 0), (.int .i64 0), (.bool false)]) 24 rfl Try.underlying25 info40 rfl (by decide) (by omega) (.slice Ao21 x6_2.length co21) x6_2 (⟨(rd_T40 l0 x7_2).f0, (rd_T40 l0 x7_2).f1, (t434 != t432)⟩ : S40) [.int .i64 ((rd_T40 l0 x7_2).f0), .int .i64 ((rd_T40 l0 x7_2).f1), .bool (t434 != t432)] (fun k_ => k_ ≠ gb431) (fun _ => False) rfl (by first | (go_simp; done) | (go_simp; rfl)) ?aP (fun _ hk => hk.elim) ?aF ?aO ?aB ?aS ?aL ?_; (case aP => exact k40_mkM _ _ _ (⟨(rd_T40 l0 x7_2).f0, (rd_T40 l0 x7_2).f1, (t434 != t432)⟩ : S40)); (case aB => exact (pG GE431)); (case aF => exact (fun k_ hk => Kd.freshB (g := gb431) (o := .cells #[.int .i64 ((rd_T40 l0 x7_2).f0), .int .i64 ((rd_T40 l0 x7_2).f1), .bool (t434 != t432)] 40 (0, 0)) (by (with_reducible repeat (first | refine blk_drewN ?_ _ | refine blk_drew ?_ | refine blk_alloc ?_ _)); refine blk_put (cs := #[.int .i64 ((rd_T40 l0 x7_2).f0), .int .i64 ((rd_T40 l0 x7_2).f1), .bool ((rd_T40 l0 x7_2).f2)]) ?_ 2 _ rfl; (with_reducible repeat (first | refine blk_drewN ?_ _ | refine blk_drew ?_ | refine blk_alloc ?_ _)); exact BK431.out) k_ hk)); (case aO => exact (by (with_reducible repeat (first | apply Kd.R_alloc | apply Kd.R_drewN | apply Kd.R_drew)); exact Kd.R_mono (Kd.R_far (p := ⟨gb431, 2, none⟩) (Kd.R_mono HO_6.out (fun k_ hk => (by first | exact ⟨trivial, hk⟩ | exact ⟨trivial, hk.2⟩ : True ∧ k_ ≠ gb431))) (fun _ hk => hk.2) (.bool (t434 != t432))) (fun _ hk => hk.2))); (case aS => exact (below_size (pG GE431))); (case aL => have := LMc18.out; omega); intro v436 w24 ho hb hg hat; rw [← Ny435.out] at ho; have n0_ := Aside0.mk (blk_grown (g := gb431) (o := .cells #[.int .i64 ((rd_T40 l0 x7_2).f0), .int .i64 ((rd_T40 l0 x7_2).f1), .bool (t434 != t432)] 40 (0, 0)) (by (with_reducible repeat (first | refine blk_drewN ?_ _ | refine blk_drew ?_ | refine blk_alloc ?_ _)); refine blk_put (cs := #[.int .i64 ((rd_T40 l0 x7_2).f0), .int .i64 ((rd_T40 l0 x7_2).f1), .bool ((rd_T40 l0 x7_2).f2)]) ?_ 2 _ rfl; (with_reducible repeat (first | refine blk_drewN ?_ _ | refine blk_drew ?_ | refine blk_alloc ?_ _)); exact BK431.out) hg (Kd.R_away HO_6.out (fun _ hk => by first | exact hk | exact hk.2))); have n1_ := Aside0.mk (hb); have n2_ := Aside0.mk (ho); clear BK431; clear HB; clear HO_6; have BK431 := n0_; have HB := n1_; have HO437 := n2_; clear n0_ n1_ n2_; clear ho hb hg hat))
           go_roundg k2
           case measure => have := HJ2.out; have := HK2.out; omega
           case rel => exact ⟨(y435), (wrap64 (x7_2 + 1)), pF, H', ⟨by have := HJ2.out; have := HK2.out; omega⟩, ⟨by (with_reducible repeat (first | apply Kd.R_alloc | apply Kd.R_drewN | apply Kd.R_drew)); exact Kd.R_mono HO437.out (fun _ hk => trivial)⟩, ⟨pG GE431⟩⟩
          ·rw [if_neg c18] at H
           exact absurd H (by simp)
         ·replace c15 := Bool.eq_false_iff.mpr c15
          subst c15
          have H1 : (some ((([] : List (S40))), false)) = some (r1, r2) := by rw [if_neg (show ¬ (false = true) by decide)] at H; exact H
          clear H
          have H := H1
          clear H1
          obtain ⟨y438, hy438⟩ : ∃ y_ : List (S40), y_ = (([] : List (S40))) := ⟨_, rfl⟩
          replace H : (some (y438, false)) = some (r1, r2) := by first | (rw [hy438]; with_reducible exact H) | (have H2_ := (Option.bind_some _ _).symm.trans H; rw [hy438]; with_reducible exact H2_) | (have H2_ := (Option.bind_some _ _).symm.trans H; with_reducible exact H2_) | with_reducible exact H | (rw [hy438]; exact H) | exact H
          have Ny438 := Aside0.mk hy438
          clear hy438
          simp only [Option.some.injEq, Prod.mk.injEq] at H
          obtain ⟨rfl, rfl⟩ := H
          have p428 : 0 ≤ (x7_2 : Int) := of_decide_eq_true pA
          have q428 : x7_2 < (l1.length : Int) := of_decide_eq_true pA
          obtain ⟨ad428, e428, hx428_0⟩ := Kd.at_int HR1.out x7_2 p428 q428
          cases e428
          replace hx428_0 := (HB.out.cell (World.block_lt_of_cell? w _ hx428_0)).trans hx428_0
          replace p428 := eq_true p428
          replace q428 := eq_true q428
          go_wp2_with (first | ((with_reducible refine gate_callee (f := 38) rfl ?_); refine goesL_ (some 32) rfl rfl Try.func38 pL rfl #[.int .i64 (rd l1 x7_2)] rfl pM ?_; (with_reducible refine (spec_l3Set.calls (rd l1 x7_2) false _ A14.out).mono ?_); rintro e w' ⟨rfl, ⟨nd, rfl⟩⟩; refine ⟨_, rfl, ?_⟩) | ((with_reducible refine gate_dst (N := 34) rfl ?_); (try (refine gate_guard (by rfl) ?_; dsimp only)); refine Kd.R_lit k40 _ 40 ?hg (N := 34) ?hd (xs := ([] : List (S40))) (inner := []) (ok := fun _ => True) (okp := fun _ => True) ?hr ?hp (fun _ hk => hk) trivial (Below.refl _ _) (Nat.le_refl _) (by simp) ?_; (case hd => rfl); (case hg => rfl); (case hr => first | (go_simp; done) | (go_simp; rfl)); (case hp => exact (Reps.none _ _)); intro v439 w25 ho26 hb hg_ hnew_; clear hg_ hnew_; (first | rw [← Ny438.out] at ho26 | (simp only [Int.reduceToNat] at ho26; rw [← Ny438.out] at ho26)); have n0_ := Aside0.mk (Kd.R_elder' (pR HO_6) (Kd.R_base ho26) hb); have n1_ := Aside0.mk (Kd.R_lower (Kd.R_new' ho26 (Kd.R_lt (pR HO_6))) (below_size pB)); have n2_ := Aside0.mk (below_step pB hb); clear HO_6; clear HB; have HO_6 := n0_; have HO440 := n1_; have HB := n2_; clear n0_ n1_ n2_; clear hb ho26))
          go_ret2
          exact ⟨_, pE, by (with_reducible repeat (first | apply Kd.R_alloc | apply Kd.R_drewN | apply Kd.R_drew)); exact Kd.R_mono HO440.out (fun _ hk => trivial), pB⟩
        ·rw [if_neg c13] at H
         exact absurd H (by simp)
       ·rw [if_neg c12] at H
        exact absurd H (by simp)
      ·rw [if_neg c11] at H
       have c11b0 : decide (x7_2 < (l0.length : Int)) = false := decide_eq_false c11
       clear c11
       simp only [Option.some.injEq, Prod.mk.injEq] at H
       obtain ⟨rfl, rfl⟩ := H
       go_wp2
       go_ret2
       exact ⟨_, pE, pR HO_6, pB⟩

end Go.Proofs.Ytglpjchpgjaanaa.Q
