-- Written by the kit's print.py for all laws of the seat at once (one namespace), by a program of this session.
import Derived.Test.YtglpjchpgjaanaaQx0
import Derived.Test.YtglpjchpgjaanaaQx3
namespace Go.Proofs.Ytglpjchpgjaanaa.Q
open Go.RowKit Go.Proofs.YtglpjchpgjaanaaW.PrintWords Go.Proofs.YtglpjchpgjaanaaW.PrintLast Go.Proofs.YtglpjchpgjaanaaW.PrintMore
attribute [local go_sem] max2_int min2_int max_two min_two max_three min_three max_four min_four   -- for this text's walks alone
set_option linter.unusedVariables false
set_option linter.unusedSimpArgs false

/-! ### impl_TracesOf: function 22 -/
-- by hand
/-- what is on the tools before and behind a use -/
def impl_TracesOf.put (on : List Int) (u : S40) : List Int := if u.f2 = true then on.set u.f0.toNat 0 else on
def impl_TracesOf.after (on : List Int) (u : S40) : List Int := (impl_TracesOf.put on u).set u.f0.toNat (Go.bits .or .i64 ((impl_TracesOf.put on u).getD u.f0.toNat 0) u.f1)
/-- what is on the tools ahead of use n -/
def impl_TracesOf.on (l : List S40) : Nat → List Int
  | 0 => [0, 0, 0, 0, 0]
  | n + 1 => impl_TracesOf.after (impl_TracesOf.on l n) (l.getD n z40)
def impl_TracesOf.tr (l : List S40) (n : Nat) : Int := (impl_TracesOf.put (impl_TracesOf.on l n) (l.getD n z40)).getD (l.getD n z40).f0.toNat 0
def impl_TracesOf.f (k : Nat) (l0 : List S40) : Option (List Int) := (impl_UsesValid.f k l0).bind fun t => if t = true then (if l0.length < 17592186044416 ∧ ∀ x ∈ l0, 0 ≤ x.f0 ∧ x.f0 < 5 then some ((List.range l0.length).map (impl_TracesOf.tr l0)) else none) else some []
theorem impl_TracesOf.mono : ∀ a0 k, LeO (impl_TracesOf.f k a0) (impl_TracesOf.f (k + 1) a0) := by
  intro a0 k
  unfold impl_TracesOf.f
  refine LeO.bind (impl_UsesValid.mono _ _) (fun _ => LeO.refl _)
theorem impl_TracesOf.infoI : (Try.prog.info? 3).map (fun i => (i.zero, i.size, i.bytes)) = some (some (.int .i64 0), 1, 8) := by kernel_rfl
def impl_TracesOf.arr (on : List Int) : Array Value := (on.map (Value.int .i64)).toArray
theorem impl_TracesOf.arr_set (on : List Int) (i : Nat) (v : Int) : (impl_TracesOf.arr on).setIfInBounds i (.int .i64 v) = impl_TracesOf.arr (on.set i v) := by
  unfold impl_TracesOf.arr
  rw [List.setIfInBounds_toArray, ← List.map_set]
theorem impl_TracesOf.arr_at (on : List Int) (i : Nat) (h : i < on.length) : (impl_TracesOf.arr on)[i]? = some (.int .i64 (on.getD i 0)) := by
  unfold impl_TracesOf.arr
  rw [List.getElem?_toArray, List.getElem?_map, List.getD_eq_getElem?_getD, List.getElem?_eq_getElem h]; rfl
theorem impl_TracesOf.on_len (l : List S40) : ∀ n, (impl_TracesOf.on l n).length = 5
  | 0 => rfl
  | n + 1 => by
    simp only [impl_TracesOf.on, impl_TracesOf.after, impl_TracesOf.put, List.length_set]
    split <;> simp [impl_TracesOf.on_len l n]
set_option maxHeartbeats 8000000 in
set_option maxRecDepth 100000 in
theorem impl_TracesOf.calls (k : Nat) (A0 : Option Addr) (c0 : Nat) (l0 : List (S40)) (r : List Int) (w : World) (hr0 : Kd.C k40 w A0 l0.length l0) (hc0 : l0.length ≤ c0) (h : impl_TracesOf.f k l0 = some r) :
    Calls Try.prog 22 #[.slice A0 l0.length c0] w fun e w' => ∃ v0_ : Value, e = .returned (v0_) ∧ Kd.R (Kd.int .i64) 3 w' w.heap.size (fun _ => True) v0_ r ∧ Below w.heap.size w w' := by
  have hu40 := Try.underlying40
  have hu59 := Try.underlying59
  unfold impl_TracesOf.f at h
  obtain ⟨b, hb, h⟩ := Option.bind_eq_some_iff.1 h
  have HR0 := Aside0.mk hr0
  have HC0 := Aside0.mk hc0
  have HG := Aside0.mk hb
  have HB := Aside0.mk (Below.refl w.heap.size w)
  have hn : l0.length ≤ 9223372036854775807 := hr0.2.1
  clear hr0 hc0 hb
  cases b with
  | false =>
    obtain rfl : [] = r := by simpa using h
    clear h
    go_enter Try.func22, Try.ntmps22
    go_wp2_with (first | ((with_reducible refine gate_dst (N := 7) rfl ?_); refine Kd.R_lit (Kd.int .i64) _ 3 ?hg (N := 7) ?hd (xs := ([] : List Int)) (inner := []) (ok := fun _ => True) (okp := fun _ => True) ?hr ?hp (fun _ hk => hk) trivial (Below.refl _ _) (Nat.le_refl _) (by simp) ?_; (case hd => rfl); (case hg => rfl); (case hr => first | (go_simp; done) | (go_simp; rfl)); (case hp => exact (Reps.none _ _)); intro v1 w1 ho1 hb hg_ hnew_; clear hg_ hnew_; have n0_ := Aside0.mk (Kd.R_lower ho1 (below_size HB.out)); have n1_ := Aside0.mk (below_step HB.out hb); clear HB; have HO1 := n0_; have HB := n1_; clear n0_ n1_; clear hb ho1))
    refine (impl_UsesValid.calls k A0 c0 l0 false _ (Kd.C_below HR0.out HB.out) HC0.out HG.out).mono ?_
    rintro e w2 ⟨rfl, hb2⟩
    have HO2 := Aside0.mk (Kd.R_below HO1.out hb2)
    have HB2 := Aside0.mk (below_step HB.out hb2)
    clear hb2
    go_wp2
    go_ret
    exact ⟨_, rfl, HO2.out, HB2.out⟩
  | true =>
    rw [if_pos rfl] at h
    by_cases hl : l0.length < 17592186044416 ∧ ∀ x ∈ l0, 0 ≤ x.f0 ∧ x.f0 < 5
    · rw [if_pos hl] at h
      obtain rfl := Option.some.inj h
      have HL := Aside0.mk hl
      clear h hl
      go_enter Try.func22, Try.ntmps22
      go_wp2_with (first | ((with_reducible refine gate_dst (N := 7) rfl ?_); refine Kd.R_lit (Kd.int .i64) _ 3 ?hg (N := 7) ?hd (xs := ([] : List Int)) (inner := []) (ok := fun _ => True) (okp := fun _ => True) ?hr ?hp (fun _ hk => hk) trivial (Below.refl _ _) (Nat.le_refl _) (by simp) ?_; (case hd => rfl); (case hg => rfl); (case hr => first | (go_simp; done) | (go_simp; rfl)); (case hp => exact (Reps.none _ _)); intro v1 w1 ho1 hb hg_ hnew_; clear hg_ hnew_; have n0_ := Aside0.mk (Kd.R_lower ho1 (below_size HB.out)); have n1_ := Aside0.mk (below_step HB.out hb); clear HB; have HO1 := n0_; have HB := n1_; clear n0_ n1_; clear hb ho1))
      refine (impl_UsesValid.calls k A0 c0 l0 true _ (Kd.C_below HR0.out HB.out) HC0.out HG.out).mono ?_
      rintro e w2 ⟨rfl, hb2⟩
      have HO2 := Aside0.mk (Kd.R_below HO1.out hb2)
      have HB2 := Aside0.mk (below_step HB.out hb2)
      clear hb2 HB HO1
      go_wp2_with (first | ((with_reducible refine gate_dst (N := 4) rfl ?_); refine box_event ?hg (N := 4) ?hd (cs := #[.int .i64 0, .int .i64 0, .int .i64 0, .int .i64 0, .int .i64 0]) (t := 59) ?hr ?_; (case hd => rfl); (case hg => rfl); (case hr => first | (go_simp; done) | (go_simp; rfl)); intro ga hg w3 hbox hb; have HO3 := Aside0.mk (Kd.R_below (Kd.R_elderB HO2.out ga (Nat.le_of_eq hg.symm)) hb); have HB3 := Aside0.mk (below_step HB2.out hb); have BA := Aside0.mk hbox; have GA := Aside0.mk ((by rw [hg]; exact HB2.out.size) : w.heap.size ≤ ga); clear hb hbox hg; have hcz0 : w3.cell? ⟨ga, 0, none⟩ = some (.int .i64 0) := (blk_cell BA.out 0).trans rfl; have hcz1 : w3.cell? ⟨ga, 1, none⟩ = some (.int .i64 0) := (blk_cell BA.out 1).trans rfl; have hcz2 : w3.cell? ⟨ga, 2, none⟩ = some (.int .i64 0) := (blk_cell BA.out 2).trans rfl; have hcz3 : w3.cell? ⟨ga, 3, none⟩ = some (.int .i64 0) := (blk_cell BA.out 3).trans rfl; have hcz4 : w3.cell? ⟨ga, 4, none⟩ = some (.int .i64 0) := (blk_cell BA.out 4).trans rfl; have hfz0 := blk_frozen BA.out 0; have hfz1 := blk_frozen BA.out 1; have hfz2 := blk_frozen BA.out 2; have hfz3 := blk_frozen BA.out 3; have hfz4 := blk_frozen BA.out 4))
      go_loopg [3, 15] l0.length (fun gg v3 v15 wr => ∃ x : Int, Aside0 (0 ≤ x ∧ x ≤ (l0.length : Int)) ∧ Aside0 (((l0.length : Int) - x).toNat ≤ gg) ∧ v15 = .int .i64 x ∧ Aside0 (wr.heap[ga]? = some (.cells (impl_TracesOf.arr (impl_TracesOf.on l0 x.toNat)) 59 (0, 0))) ∧ Aside0 (Kd.R (Kd.int .i64) 3 wr w.heap.size (fun k_ => k_ ≠ ga) v3 ((List.range x.toNat).map (impl_TracesOf.tr l0))) ∧ Aside0 (Below w.heap.size w wr))
      case atStart => exact ⟨0, ⟨by omega⟩, ⟨by omega⟩, rfl, ⟨blk_set (blk_set (blk_set (blk_set (blk_set BA.out 0 _) 1 _) 2 _) 3 _) 4 _⟩, ⟨Kd.R_far (p := ⟨ga, 4, none⟩) (Kd.R_far (p := ⟨ga, 3, none⟩) (Kd.R_far (p := ⟨ga, 2, none⟩) (Kd.R_far (p := ⟨ga, 1, none⟩) (Kd.R_far (p := ⟨ga, 0, none⟩) (Kd.R_mono HO3.out (fun _ h => h.2)) (fun _ hk => hk) _) (fun _ hk => hk) _) (fun _ hk => hk) _) (fun _ hk => hk) _) (fun _ hk => hk) _⟩, ⟨below_set (below_set (below_set (below_set (below_set HB3.out GA.out) GA.out) GA.out) GA.out) GA.out⟩⟩
      case round =>
        clear HO3 HB3 BA HO2 HB2 hcz0 hcz1 hcz2 hcz3 hcz4 hfz0 hfz1 hfz2 hfz3 hfz4
        obtain ⟨x, HX, HGG, rfl, BA, HO, HB⟩ := hrel
        by_cases hlt : x < (l0.length : Int)
        · have c3b0 : decide (x < (l0.length : Int)) = true := decide_eq_true hlt
          have HLT := Aside0.mk hlt
          have p1 : 0 ≤ x := HX.out.1
          obtain ⟨ad, ea, hx0, hx1, hx2⟩ := at_T40 (Kd.C_below HR0.out HB.out) x p1 hlt
          cases ea
          have HE : Aside0 ((x + 1).toNat = x.toNat + 1) := ⟨by omega⟩
          have HY : Aside0 (rd_T40 l0 x = l0.getD x.toNat z40) := ⟨rfl⟩
          have HM : Aside0 (0 ≤ (rd_T40 l0 x).f0 ∧ (rd_T40 l0 x).f0 < 5) := ⟨by
            have hx : x.toNat < l0.length := by omega
            have e : rd_T40 l0 x = l0[x.toNat] := by
              show l0.getD x.toNat z40 = _
              rw [List.getD_eq_getElem?_getD, List.getElem?_eq_getElem hx, Option.getD_some]
            rw [e]
            exact HL.out.2 _ (List.getElem_mem hx)⟩
          have ew : wrap64 (x + 1) = x + 1 := by unfold wrap64; omega
          have EW := Aside0.mk ew
          clear ew
          replace p1 := eq_true p1
          replace hlt := eq_true hlt
          have HP : Aside0 ((List.range (x + 1).toNat).map (impl_TracesOf.tr l0) = (List.range x.toNat).map (impl_TracesOf.tr l0) ++ [impl_TracesOf.tr l0 x.toNat]) := ⟨by rw [HE.out, List.range_succ, List.map_append]; rfl⟩
          have HQ : Aside0 (((List.range x.toNat).map (impl_TracesOf.tr l0)).length ≤ l0.length) := ⟨by rw [List.length_map, List.length_range]; have := HX.out; omega⟩
          have HT : Aside0 (impl_TracesOf.tr l0 x.toNat = (impl_TracesOf.put (impl_TracesOf.on l0 x.toNat) (rd_T40 l0 x)).getD (rd_T40 l0 x).f0.toNat 0) := ⟨rfl⟩
          have HS : Aside0 (impl_TracesOf.on l0 (x + 1).toNat = impl_TracesOf.after (impl_TracesOf.on l0 x.toNat) (rd_T40 l0 x)) := ⟨by rw [HE.out]; rfl⟩
          generalize rd_T40 l0 x = y at hx0 hx1 hx2 HY HM HT HS
          generalize impl_TracesOf.tr l0 x.toNat = n at HP HT
          generalize (List.range x.toNat).map (impl_TracesOf.tr l0) = acc at HO HP HQ
          have HN : Aside0 ((impl_TracesOf.on l0 x.toNat).length = 5) := ⟨impl_TracesOf.on_len l0 _⟩
          generalize impl_TracesOf.on l0 x.toNat = on at BA HT HS HN
          obtain ⟨t, al, cl⟩ := y
          simp only at hx0 hx1 hx2
          have ht1 : 0 ≤ t := HM.out.1
          have ht2 : t < 5 := HM.out.2
          have HC : Aside0 (t.toNat < on.length) := ⟨by rw [HN.out]; omega⟩
          replace ht1 := eq_true ht1
          replace ht2 := eq_true ht2
          clear HM HY
          cases cl
          · have EN : Aside0 (on.getD t.toNat 0 = n) := ⟨HT.out.symm⟩
            obtain ⟨m, HV, hmn⟩ : ∃ m : Int, Aside0 (on.getD t.toNat 0 = m) ∧ m = n := ⟨_, EN, rfl⟩
            subst hmn
            have ES : Aside0 (impl_TracesOf.on l0 (x + 1).toNat = on.set t.toNat (Go.bits .or .i64 m al)) := ⟨by rw [← EN.out]; exact HS.out⟩
            clear HS HT
            go_wp2_with (first | ((with_reducible refine gate_dst (N := 6) rfl ?_); refine box_event ?hg (N := 6) ?hd (cs := #[.int .i64 0, .int .i64 0, .bool false]) (t := 40) ?hr ?_; (case hd => rfl); (case hg => rfl); (case hr => first | (go_simp; done) | (go_simp; rfl)); intro gb hg w5 hbox hb; have n0_ := Aside0.mk (Kd.R_below (Kd.R_elderB HO.out gb (Nat.le_of_eq hg.symm)) hb); have n1_ := Aside0.mk (below_step HB.out hb); have BK := Aside0.mk hbox; have GW := Aside0.mk ((by rw [hg]; exact HB.out.size) : w.heap.size ≤ gb); have n2_ := Aside0.mk (blk_below BA.out hb); have hne1 : (ga = gb) = False := eq_false (by have := blk_lt BA.out; omega); have hne2 : (gb = ga) = False := eq_false (by have := blk_lt BA.out; omega); clear HO HB BA; have HO := n0_; have HB := n1_; have BA := n2_; clear n0_ n1_ n2_ hb hbox hg; have hcz0 : w5.cell? ⟨gb, 0, none⟩ = some (.int .i64 0) := (blk_cell BK.out 0).trans rfl; have hcz1 : w5.cell? ⟨gb, 1, none⟩ = some (.int .i64 0) := (blk_cell BK.out 1).trans rfl; have hcz2 : w5.cell? ⟨gb, 2, none⟩ = some (.bool false) := (blk_cell BK.out 2).trans rfl; have hfz0 := blk_frozen BK.out 0; have hfz1 := blk_frozen BK.out 1; have hfz2 := blk_frozen BK.out 2; have hcat : w5.cell? ⟨ga, t.toNat, none⟩ = some (.int .i64 m) := (blk_cell BA.out t.toNat).trans ((impl_TracesOf.arr_at on _ HC.out).trans (by rw [HV.out])); have hfat := blk_frozen BA.out t.toNat) | ((with_reducible refine gate_builtin (b := .append) (xs := #[.tmp 24, .tmp 29]) rfl ?_); have h1_ := Aside0.mk (Kd.R_far (p := ⟨gb, 2, none⟩) (Kd.R_far (p := ⟨gb, 1, none⟩) (Kd.R_far (p := ⟨gb, 0, none⟩) HO.out (fun _ hk => hk.2) (.int .i64 t)) (fun _ hk => hk.2) (.int .i64 al)) (fun _ hk => hk.2) (.bool false)); have h2_ := Aside0.mk (below_set (j := 2) (v := .bool false) (below_set (j := 1) (v := .int .i64 al) (below_set (j := 0) (v := .int .i64 t) HB.out GW.out) GW.out) GW.out); have h3_ : Aside0 ((((w5.setCell ⟨gb, 0, none⟩ (.int .i64 t)).setCell ⟨gb, 1, none⟩ (.int .i64 al)).setCell ⟨gb, 2, none⟩ (.bool false)).heap[gb]? = some (Obj.cells #[.int .i64 t, .int .i64 al, .bool false] 40 (0, 0))) := ⟨blk_set (blk_set (blk_set BK.out 0 (.int .i64 t)) 1 (.int .i64 al)) 2 (.bool false)⟩; have h4_ : Aside0 ((((w5.setCell ⟨gb, 0, none⟩ (.int .i64 t)).setCell ⟨gb, 1, none⟩ (.int .i64 al)).setCell ⟨gb, 2, none⟩ (.bool false)).heap[ga]? = some (Obj.cells (impl_TracesOf.arr on) 59 (0, 0))) := ⟨blk_far (p := ⟨gb, 2, none⟩) (blk_far (p := ⟨gb, 1, none⟩) (blk_far (p := ⟨gb, 0, none⟩) BA.out (of_eq_false hne1) (.int .i64 t)) (of_eq_false hne1) (.int .i64 al)) (of_eq_false hne1) (.bool false)⟩; at_builtin; refine Kd.R_append (Kd.int .i64) (w0 := w) w.heap.size rfl (.tmp 24) (.tmp 29) 33 3 (.int .i64 0) 8 rfl Try.underlying33 impl_TracesOf.infoI rfl (by decide) (by decide) u3 acc m [.int .i64 m] (fun k_ => k_ ≠ ga ∧ k_ ≠ gb) (fun _ => False) rfl (by first | (go_simp; done) | (go_simp; rfl)) rfl (fun _ hk => hk.elim) (fun k_ hk => by have := blk_lt h3_.out; have := blk_lt h4_.out; omega) h1_.out h2_.out h2_.out.size (by have := HL.out; have := HQ.out; omega) ?_; intro v7 w7 ho hb hg hat; have HO7 := Aside0.mk ho; have HB7 := Aside0.mk hb; have BA7 := Aside0.mk (blk_grown h4_.out hg (Kd.R_away h1_.out (fun _ hk => hk.1))); have BK7 := Aside0.mk (blk_grown h3_.out hg (Kd.R_away h1_.out (fun _ hk => hk.2))); clear ho hb hg hat h1_ h2_ h3_ h4_ hcz0 hcz1 hcz2 hfz0 hfz1 hfz2 hcat hfat HO HB BA BK; have hk0 : w7.cell? ⟨gb, 0, none⟩ = some (.int .i64 t) := (blk_cell BK7.out 0).trans rfl; have hk1 : w7.cell? ⟨gb, 1, none⟩ = some (.int .i64 al) := (blk_cell BK7.out 1).trans rfl; have hk2 : w7.cell? ⟨ga, t.toNat, none⟩ = some (.int .i64 m) := (blk_cell BA7.out t.toNat).trans ((impl_TracesOf.arr_at on _ (by first | exact HC.out | (rw [List.length_set]; exact HC.out))).trans (by rw [EN.out])); have hk3 := blk_frozen BK7.out 0; have hk4 := blk_frozen BK7.out 1; have hk5 := blk_frozen BA7.out t.toNat))
            go_region
            all_goals try go_wp2
            go_roundg ((l0.length : Int) - (x + 1)).toNat
            case measure => have := HX.out; have := HGG.out; have := HLT.out; omega
            case rel => exact ⟨x + 1, ⟨by have := HX.out; have := HLT.out; omega⟩, ⟨Nat.le_refl _⟩, by first | rfl | (rw [EW.out]; done), ⟨by have h_ := blk_drew (blk_set BA7.out t.toNat (.int .i64 (Go.bits .or .i64 m al))); rw [impl_TracesOf.arr_set, ← ES.out] at h_; exact h_⟩, ⟨by rw [HP.out]; exact Kd.R_drew (Kd.R_far (p := ⟨ga, t.toNat, none⟩) (Kd.R_mono HO7.out (fun _ h => h.1)) (fun _ hk => hk) _)⟩, ⟨below_drew1 (below_set HB7.out GA.out)⟩⟩
          · have EN : Aside0 ((on.set t.toNat 0).getD t.toNat 0 = 0) := ⟨by rw [List.getD_eq_getElem?_getD, List.getElem?_set_self HC.out]; rfl⟩
            obtain rfl : n = 0 := HT.out.trans (Eq.trans rfl EN.out)
            obtain ⟨m, HV⟩ : ∃ m : Int, Aside0 (on.getD t.toNat 0 = m) := ⟨_, ⟨rfl⟩⟩
            have ES : Aside0 (impl_TracesOf.on l0 (x + 1).toNat = (on.set t.toNat 0).set t.toNat (Go.bits .or .i64 0 al)) := ⟨HS.out.trans (by show (on.set t.toNat 0).set t.toNat (Go.bits .or .i64 ((on.set t.toNat 0).getD t.toNat 0) al) = _; rw [EN.out])⟩
            clear HS HT
            go_wp2_with (first | ((with_reducible refine gate_dst (N := 6) rfl ?_); refine box_event ?hg (N := 6) ?hd (cs := #[.int .i64 0, .int .i64 0, .bool false]) (t := 40) ?hr ?_; (case hd => rfl); (case hg => rfl); (case hr => first | (go_simp; done) | (go_simp; rfl)); intro gb hg w5 hbox hb; have n0_ := Aside0.mk (Kd.R_below (Kd.R_elderB HO.out gb (Nat.le_of_eq hg.symm)) hb); have n1_ := Aside0.mk (below_step HB.out hb); have BK := Aside0.mk hbox; have GW := Aside0.mk ((by rw [hg]; exact HB.out.size) : w.heap.size ≤ gb); have n2_ := Aside0.mk (blk_below BA.out hb); have hne1 : (ga = gb) = False := eq_false (by have := blk_lt BA.out; omega); have hne2 : (gb = ga) = False := eq_false (by have := blk_lt BA.out; omega); clear HO HB BA; have HO := n0_; have HB := n1_; have BA := n2_; clear n0_ n1_ n2_ hb hbox hg; have hcz0 : w5.cell? ⟨gb, 0, none⟩ = some (.int .i64 0) := (blk_cell BK.out 0).trans rfl; have hcz1 : w5.cell? ⟨gb, 1, none⟩ = some (.int .i64 0) := (blk_cell BK.out 1).trans rfl; have hcz2 : w5.cell? ⟨gb, 2, none⟩ = some (.bool false) := (blk_cell BK.out 2).trans rfl; have hfz0 := blk_frozen BK.out 0; have hfz1 := blk_frozen BK.out 1; have hfz2 := blk_frozen BK.out 2; have hcat : w5.cell? ⟨ga, t.toNat, none⟩ = some (.int .i64 m) := (blk_cell BA.out t.toNat).trans ((impl_TracesOf.arr_at on _ HC.out).trans (by rw [HV.out])); have hfat := blk_frozen BA.out t.toNat) | ((with_reducible refine gate_builtin (b := .append) (xs := #[.tmp 24, .tmp 29]) rfl ?_); have h1_ := Aside0.mk (Kd.R_far (p := ⟨ga, t.toNat, none⟩) (Kd.R_far (p := ⟨gb, 2, none⟩) (Kd.R_far (p := ⟨gb, 1, none⟩) (Kd.R_far (p := ⟨gb, 0, none⟩) HO.out (fun _ hk => hk.2) (.int .i64 t)) (fun _ hk => hk.2) (.int .i64 al)) (fun _ hk => hk.2) (.bool true)) (fun _ hk => hk.1) (.int .i64 0)); have h2_ := Aside0.mk (below_set (j := t.toNat) (v := .int .i64 0) (below_set (j := 2) (v := .bool true) (below_set (j := 1) (v := .int .i64 al) (below_set (j := 0) (v := .int .i64 t) HB.out GW.out) GW.out) GW.out) GA.out); have h3_ : Aside0 (((((w5.setCell ⟨gb, 0, none⟩ (.int .i64 t)).setCell ⟨gb, 1, none⟩ (.int .i64 al)).setCell ⟨gb, 2, none⟩ (.bool true)).setCell ⟨ga, t.toNat, none⟩ (.int .i64 0)).heap[gb]? = some (Obj.cells #[.int .i64 t, .int .i64 al, .bool true] 40 (0, 0))) := ⟨blk_far (p := ⟨ga, t.toNat, none⟩) (blk_set (blk_set (blk_set BK.out 0 (.int .i64 t)) 1 (.int .i64 al)) 2 (.bool true)) (of_eq_false hne2) (.int .i64 0)⟩; have h4_ : Aside0 (((((w5.setCell ⟨gb, 0, none⟩ (.int .i64 t)).setCell ⟨gb, 1, none⟩ (.int .i64 al)).setCell ⟨gb, 2, none⟩ (.bool true)).setCell ⟨ga, t.toNat, none⟩ (.int .i64 0)).heap[ga]? = some (Obj.cells (impl_TracesOf.arr (on.set t.toNat 0)) 59 (0, 0))) := ⟨(by have h_ := blk_set (blk_far (p := ⟨gb, 2, none⟩) (blk_far (p := ⟨gb, 1, none⟩) (blk_far (p := ⟨gb, 0, none⟩) BA.out (of_eq_false hne1) (.int .i64 t)) (of_eq_false hne1) (.int .i64 al)) (of_eq_false hne1) (.bool true)) t.toNat (.int .i64 0); rw [impl_TracesOf.arr_set] at h_; exact h_)⟩; at_builtin; refine Kd.R_append (Kd.int .i64) (w0 := w) w.heap.size rfl (.tmp 24) (.tmp 29) 33 3 (.int .i64 0) 8 rfl Try.underlying33 impl_TracesOf.infoI rfl (by decide) (by decide) u3 acc 0 [.int .i64 0] (fun k_ => k_ ≠ ga ∧ k_ ≠ gb) (fun _ => False) rfl (by first | (go_simp; done) | (go_simp; rfl)) rfl (fun _ hk => hk.elim) (fun k_ hk => by have := blk_lt h3_.out; have := blk_lt h4_.out; omega) h1_.out h2_.out h2_.out.size (by have := HL.out; have := HQ.out; omega) ?_; intro v7 w7 ho hb hg hat; have HO7 := Aside0.mk ho; have HB7 := Aside0.mk hb; have BA7 := Aside0.mk (blk_grown h4_.out hg (Kd.R_away h1_.out (fun _ hk => hk.1))); have BK7 := Aside0.mk (blk_grown h3_.out hg (Kd.R_away h1_.out (fun _ hk => hk.2))); clear ho hb hg hat h1_ h2_ h3_ h4_ hcz0 hcz1 hcz2 hfz0 hfz1 hfz2 hcat hfat HO HB BA BK; have hk0 : w7.cell? ⟨gb, 0, none⟩ = some (.int .i64 t) := (blk_cell BK7.out 0).trans rfl; have hk1 : w7.cell? ⟨gb, 1, none⟩ = some (.int .i64 al) := (blk_cell BK7.out 1).trans rfl; have hk2 : w7.cell? ⟨ga, t.toNat, none⟩ = some (.int .i64 0) := (blk_cell BA7.out t.toNat).trans ((impl_TracesOf.arr_at (on.set t.toNat 0) _ (by first | exact HC.out | (rw [List.length_set]; exact HC.out))).trans (by rw [EN.out])); have hk3 := blk_frozen BK7.out 0; have hk4 := blk_frozen BK7.out 1; have hk5 := blk_frozen BA7.out t.toNat))
            go_region
            all_goals try go_wp2
            go_roundg ((l0.length : Int) - (x + 1)).toNat
            case measure => have := HX.out; have := HGG.out; have := HLT.out; omega
            case rel => exact ⟨x + 1, ⟨by have := HX.out; have := HLT.out; omega⟩, ⟨Nat.le_refl _⟩, by first | rfl | (rw [EW.out]; done), ⟨by have h_ := blk_drew (blk_set BA7.out t.toNat (.int .i64 (Go.bits .or .i64 0 al))); rw [impl_TracesOf.arr_set, ← ES.out] at h_; exact h_⟩, ⟨by rw [HP.out]; exact Kd.R_drew (Kd.R_far (p := ⟨ga, t.toNat, none⟩) (Kd.R_mono HO7.out (fun _ h => h.1)) (fun _ hk => hk) _)⟩, ⟨below_drew1 (below_set HB7.out GA.out)⟩⟩
        · have c3b0 : decide (x < (l0.length : Int)) = false := decide_eq_false hlt
          have HE : Aside0 (x.toNat = l0.length) := ⟨by have := HX.out; omega⟩
          clear hlt
          go_wp2
          go_ret
          refine ⟨_, rfl, ?_, HB.out⟩
          have := HO.out
          rw [HE.out] at this
          exact Kd.R_mono this (fun _ _ => trivial)
    · rw [if_neg hl] at h
      cases h

end Go.Proofs.Ytglpjchpgjaanaa.Q
