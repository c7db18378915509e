/- timeboundlaw40.spoilt: of some jobs. -/
import Derived.Test.YtgpdnfhmmeaoeaaB9
namespace Go.Proofs.Ytgpdnfhmmeaoeaa.PBt
open Go.RowKit Go.Proofs.YtgpdnfhmmeaoeaaW.PrintWords Go.Proofs.YtgpdnfhmmeaoeaaW.PrintLast Go.Proofs.YtgpdnfhmmeaoeaaW.PrintMore
attribute [local go_sem] max2_int min2_int max_two min_two max_three min_three max_four min_four
set_option linter.unusedVariables false
set_option linter.unusedSimpArgs false

def Spoilt (w : World) (e : Ending) (w' : World) : Prop := ∃ (A : Option Addr) (c : Nat) (y : List S48), e = .returned (.slice A y.length c) ∧ y.length ≤ c ∧ y.length ≤ 100 ∧ (∀ z ∈ y, z.f5.length ≤ 3) ∧ Kd.C k48 w' A y.length y ∧ Below w.heap.size w w'
theorem put_out {w W : World} {n gy capy : Nat} {y : List S48} {cy : List Value} (hY : W.ownsRow w.heap.size 48 7 (.slice (some ⟨gy, 0, none⟩) n capy) n cy) (hr : Reps (k48.K W) 7 y cy) (hy : y.length = n) (hn : n ≤ 100) (hh : ∀ z ∈ y, z.f5.length ≤ 3) (hb : Below w.heap.size w W) :
    Spoilt w (.returned (.slice (some ⟨gy, 0, none⟩) n capy)) W := by
  obtain ⟨A, c, hA, hC⟩ := own_reads_row hY hr hy
  injection hA with hA1 hA2 hA3
  subst hA1 hA3
  have hcap : n ≤ capy := by
    rcases hY.2 with ⟨h, _⟩ | ⟨g', cap', cur, hv, _, _, hnc, _⟩
    · cases h
    · injection hv with _ _ h3
      omega
  subst hy
  exact ⟨_, _, y, rfl, hcap, hn, hh, hC, hb⟩
theorem num_out {w W : World} {n gy capy : Nat} {x : List S48} {cx : List Value} (hY : W.ownsRow w.heap.size 48 7 (.slice (some ⟨gy, 0, none⟩) n capy) n cx) (hr : Reps (k48.K w) 7 x cx) (hn' : x.length = n) (hn : n ≤ 100) (hf : FewHolds x) (hb : Below w.heap.size w W) (hg : w.heap.size ≤ gy) (k : Nat) (hk : k < n) (j : Nat)
    (hj : j = 0 ∨ j = 1 ∨ j = 2 ∨ j = 3 ∨ j = 4 ∨ j = 6) (v : Int) :
    Spoilt w (.returned (.slice (some ⟨gy, 0, none⟩) n capy)) (W.setCell ⟨gy, k * 7 + j, none⟩ (.int .i64 v)) := by
  have hb' : Below w.heap.size w (W.setCell ⟨gy, k * 7 + j, none⟩ (.int .i64 v)) := below_set hb hg
  refine put_out (hY.stored (k * 7 + j) (.int .i64 v)).1 (reps_below (reps_num hr k (by omega) j hj v) hb') (by rw [List.length_set]; exact hn') hn (holds_set (fun y hy => Nat.le_trans (hf y hy) (by omega)) k _ ?_) hb'
  rw [putN_f5]
  rw [List.getD_eq_getElem?_getD, List.getElem?_eq_getElem (by omega)]
  exact Nat.le_trans (hf _ (List.getElem_mem _)) (by omega)
theorem cell_put {W : World} {b n gy capy : Nat} {x : List S48} {cx : List Value} (hY : W.ownsRow b 48 7 (.slice (some ⟨gy, 0, none⟩) n capy) n cx) (hr : cx.length = n * 7) (k : Nat) (hk : k < n) (j : Nat) (hj : j < 7) : (∃ u, W.cell? ⟨gy, k * 7 + j, none⟩ = some u ∧ cx[k * 7 + j]? = some u) ∧ W.frozen? ⟨gy, k * 7 + j, none⟩ = false := by
  have hlt : k * 7 + j < cx.length := by omega
  refine ⟨⟨cx[k * 7 + j], ?_, List.getElem?_eq_getElem hlt⟩, ?_⟩
  · have h7 := hY.cells (g := gy) rfl (k * 7 + j) _ (List.getElem?_eq_getElem hlt)
    rwa [add_plain] at h7
  · obtain ⟨cb, hcb⟩ := own_typed hY gy rfl
    exact blk_frozen hcb _

set_option maxHeartbeats 8000000 in
set_option maxRecDepth 100000 in
theorem spoilt1.calls (ad : Addr) (c0 : Nat) (x : List S48) (what by_ : Int) (w : World) (hr0 : Kd.C k48 w (some ad) x.length x) (hc0 : x.length ≤ c0) (hx0 : 0 < x.length) (hx1 : x.length ≤ 100) (hfew : FewHolds x) :
    Calls Try.prog 16 #[.slice (some ad) x.length c0, .int .i64 what, .int .i64 by_] w (Spoilt w) := by
  have hu48 := Try.underlying48
  have hu50 := Try.underlying50
  have hu35 := Try.underlying35
  obtain ⟨cx, hrx, hcx⟩ := ReadsRow.inner_ hr0
  have RX := Aside0.mk hrx
  have hcxl : cx.length = x.length * 7 := hrx.1
  have HCX1 := Aside0.mk (cells_one hrx)
  have HCX := Aside0.mk hcx
  have HFW := Aside0.mk hfew
  have HR0 := Aside0.mk hr0
  have HB := Aside0.mk (Below.refl w.heap.size w)
  clear hrx hcx hfew hr0
  obtain ⟨i48, hi48, hz48⟩ := Option.map_eq_some_iff.1 info48
  simp only [Prod.mk.injEq] at hz48
  obtain ⟨hza, hzb, hzc⟩ := hz48
  have HI48 := Aside0.mk hi48
  have HZA := Aside0.mk hza
  have HZB := Aside0.mk hzb
  have HZC := Aside0.mk hzc
  clear hi48 hza hzb hzc
  obtain ⟨kk, hkk, hk0, hk1⟩ := mod_ok by_ (x.length : Int) (by omega) (by omega)
  obtain ⟨kk, rfl⟩ := Int.eq_ofNat_of_zero_le hk0
  obtain ⟨r7, hr7, h70, h71⟩ := mod_ok what 7 (by omega) (by omega)
  have HKK := Aside0.mk hkk
  have HR7 := Aside0.mk hr7
  have hkl : kk < x.length := by omega
  have hne : ¬ (x.length : Int) = 0 := by omega
  clear hkk hr7 hk0
  go_enter Try.func16, Try.ntmps16
  go_wp2_with (first | (at_builtin; refine wpList_append_own_at _ rfl _ _ 35 rfl w.heap.size 48 i48 _ 7 72 Try.underlying35 HI48.out HZA.out HZB.out HZC.out rfl (by decide) (.slice none 0 0) 0 [] rfl ⟨rfl, .inl ⟨rfl, rfl⟩⟩ ad x.length c0 cx rfl hcxl HCX.out HCX1.out (by unfold maxLen; omega) (by omega) (Nat.le_refl _) ?_; intro vy w4 hy hgrow hnil hat; simp only [Nat.zero_add, List.nil_append] at hy; obtain ⟨gy, capy, rfl, hgy1, hgy2⟩ := hy.form (by omega); have HY := Aside0.mk hy; have HG := Aside0.mk hgrow; clear hy hgrow hnil hat) | fail)
  replace HB := Aside0.mk (pw_below_grown HB.out none (Nat.le_refl _) HG.out (by intro k h; cases h))
  clear HG HCX HCX1
  refine (timeboundmake_Mod.calls by_ (x.length : Int) kk w4 HKK.out).mono ?_
  rintro e w5 ⟨rfl, hd⟩
  replace HB := Aside0.mk (below_step HB.out hd.below)
  replace HY := Aside0.mk (pw_own_below HY.out hd.below)
  clear hd HKK
  go_wp2_with fail
  refine (timeboundmake_Mod.calls what 7 r7 w5 HR7.out).mono ?_
  rintro e w6 ⟨rfl, hd⟩
  replace HB := Aside0.mk (below_step HB.out hd.below)
  replace HY := Aside0.mk (pw_own_below HY.out hd.below)
  clear hd HR7
  rcases (show r7 = 0 ∨ r7 = 1 ∨ r7 = 2 ∨ r7 = 3 ∨ r7 = 4 ∨ r7 = 5 ∨ r7 = 6 by omega) with rfl | rfl | rfl | rfl | rfl | rfl | rfl
  · obtain ⟨⟨u, hcl, _⟩, hfr⟩ := cell_put (x := x) HY.out hcxl kk hkl 0 (by omega)
    rw [Nat.add_zero] at hcl hfr
    go_wp2_with fail
    go_ret
    exact num_out HY.out RX.out rfl hx1 HFW.out HB.out hgy1 kk hkl 0 (by omega) by_
  · -- Deadline
    obtain ⟨A5, c5, h5, _, _⟩ := k48_open (reps_get RX.out z48 kk hkl)
    obtain ⟨⟨u, hcl, _⟩, hfr⟩ := cell_put (x := x) HY.out hcxl kk hkl 1 (by omega)
    obtain ⟨⟨u0, hcl0, hu0⟩, hfr0⟩ := cell_put (x := x) HY.out hcxl kk hkl 0 (by omega)
    obtain ⟨p0, rfl⟩ : ∃ p0, u0 = .int .i64 p0 := by
      have h5' : (cx.drop (kk * 7)).take 7 = _ := h5
      have h6 := congrArg (fun l : List Value => l[0]?) h5'
      rw [List.getElem?_take, if_pos (by omega), List.getElem?_drop, hu0] at h6
      exact ⟨_, Option.some.inj h6⟩
    rw [Nat.add_zero] at hcl0 hfr0
    obtain ⟨r3, hr3, _, _⟩ := mod_ok by_ 3 (by omega) (by omega)
    have HR3 := Aside0.mk hr3
    clear hr3 hu0 h5
    have hoth : ∀ (W : World) (v : Value), (W.setCell ⟨gy, kk * 7 + 1, none⟩ v).cell? ⟨gy, kk * 7, none⟩ = W.cell? ⟨gy, kk * 7, none⟩ := fun W v => World.cell?_setCell_other W _ _ v (by simp)
    go_upto_region 9 with (fail)
    go_region_held3 (fun w' => w'.cell? ⟨gy, kk * 7, none⟩ = some (.int .i64 p0)) (go_keep) (first | (go_at_call 23; refine (timeboundmake_Mod.calls by_ 3 r3 _ HR3.out).mono ?_; rintro e w7 ⟨rfl, ⟨nd, rfl⟩⟩))
    all_goals (try go_wp2_with fail)
    go_ret
    exact num_out (pw_own_below HY.out (pw_below_drewN (Below.refl _ _) _)) RX.out rfl hx1 HFW.out (below_step HB.out (pw_below_drewN (Below.refl _ _) _)) hgy1 kk hkl 1 (by omega) _
  · obtain ⟨⟨u, hcl, _⟩, hfr⟩ := cell_put (x := x) HY.out hcxl kk hkl 2 (by omega)
    go_wp2_with fail
    go_ret
    exact num_out HY.out RX.out rfl hx1 HFW.out HB.out hgy1 kk hkl 2 (by omega) by_
  · -- Priority
    obtain ⟨r3, hr3, _, _⟩ := mod_ok by_ 18 (by omega) (by omega)
    have HR3 := Aside0.mk hr3
    clear hr3
    go_wp2_with fail
    refine (timeboundmake_Mod.calls by_ 18 r3 w6 HR3.out).mono ?_
    rintro e w7 ⟨rfl, hd⟩
    replace HB := Aside0.mk (below_step HB.out hd.below)
    replace HY := Aside0.mk (pw_own_below HY.out hd.below)
    clear hd HR3
    obtain ⟨⟨u, hcl, _⟩, hfr⟩ := cell_put (x := x) HY.out hcxl kk hkl 3 (by omega)
    go_wp2_with fail
    go_ret
    exact num_out HY.out RX.out rfl hx1 HFW.out HB.out hgy1 kk hkl 3 (by omega) _
  · -- Cost
    obtain ⟨r3, hr3, h30, h31⟩ := mod_ok by_ 3 (by omega) (by omega)
    obtain ⟨r3, rfl⟩ := Int.eq_ofNat_of_zero_le h30
    have HR3 := Aside0.mk hr3
    clear hr3
    go_wp2_with fail
    have HBK := Aside0.mk (heap_alloc_new w6 (.cells #[.int .i64 (-1), .int .i64 16777216, .int .i64 16777217] 3))
    replace HB := Aside0.mk (below_alloc HB.out (.cells #[.int .i64 (-1), .int .i64 16777216, .int .i64 16777217] 3))
    replace HY := Aside0.mk (pw_own_below HY.out (below_alloc (Below.refl w6.heap.size w6) (.cells #[.int .i64 (-1), .int .i64 16777216, .int .i64 16777217] 3)))
    refine (timeboundmake_Mod.calls by_ 3 r3 _ HR3.out).mono ?_
    rintro e w7 ⟨rfl, hd⟩
    replace HB := Aside0.mk (below_step HB.out hd.below)
    replace HY := Aside0.mk (pw_own_below HY.out hd.below)
    replace HBK := Aside0.mk (blk_below HBK.out hd.below)
    clear hd HR3
    obtain ⟨⟨u, hcl, _⟩, hfr⟩ := cell_put (x := x) HY.out hcxl kk hkl 4 (by omega)
    obtain ⟨v3, hv3⟩ : ∃ v3, w7.cell? ⟨w6.heap.size, r3, none⟩ = some (.int .i64 v3) := by
      rw [blk_cell HBK.out]
      rcases (show r3 = 0 ∨ r3 = 1 ∨ r3 = 2 by omega) with rfl | rfl | rfl
      · exact ⟨_, rfl⟩
      · exact ⟨_, rfl⟩
      · exact ⟨_, rfl⟩
    go_wp2_with fail
    go_ret
    exact num_out HY.out RX.out rfl hx1 HFW.out HB.out hgy1 kk hkl 4 (by omega) _
  · obtain ⟨⟨u, hcl, _⟩, hfr⟩ := cell_put (x := x) HY.out hcxl kk hkl 6 (by omega)
    go_wp2_with fail
    go_ret
    exact num_out HY.out RX.out rfl hx1 HFW.out HB.out hgy1 kk hkl 6 (by omega) by_
  · -- Sections
    obtain ⟨A5, c5, h5, hl5, hg5⟩ := k48_open (reps_get (reps_below RX.out HB.out) z48 kk hkl)
    obtain ⟨⟨u, hcl, hu⟩, hfr⟩ := cell_put (x := x) HY.out hcxl kk hkl 5 (by omega)
    obtain rfl : u = .slice A5 (x.getD kk z48).f5.length c5 := by
      have h5' : (cx.drop (kk * 7)).take 7 = _ := h5
      have h6 := congrArg (fun l : List Value => l[5]?) h5'
      rw [List.getElem?_take, if_pos (by omega), List.getElem?_drop, hu] at h6
      exact Option.some.inj h6
    have hfk : (x.getD kk z48).f5.length ≤ 2 := HFW.out _ (by
      rw [List.getD_eq_getElem?_getD, List.getElem?_eq_getElem hkl]
      exact List.getElem_mem _)
    obtain ⟨r6, hr6, _, _⟩ := mod_ok by_ 6 (by omega) (by omega)
    obtain ⟨r3, hr3, _, _⟩ := mod_ok by_ 3 (by omega) (by omega)
    have HR6 := Aside0.mk hr6
    have HR3 := Aside0.mk hr3
    obtain ⟨ys, hys⟩ : ∃ ys, ys = (x.getD kk z48).f5 := ⟨_, rfl⟩
    rw [← hys] at hg5 hl5 hcl hfk
    have HG5 := Aside0.mk hg5
    have HYS := Aside0.mk hys
    have hgy6 : gy < w6.heap.size := by
      obtain ⟨cb, hcb⟩ := own_typed HY.out gy rfl
      exact blk_lt hcb
    have okf : Aside0 (∀ k, w6.heap.size ≤ k → k ≠ gy ∧ ¬ k < w6.heap.size) := ⟨fun k hk => ⟨by omega, by omega⟩⟩
    clear hr6 hr3 hu h5 hg5 hys
    go_wp2_with (first | (at_builtin; refine Kd.R_append_rows (w0 := w) k50 (Rr := k50.K w6) w.heap.size rfl _ _ 46 50 _ 16 rfl Try.underlying46 info50 rfl (by decide) (by decide) (.slice none 0 0) [] ys A5 ys.length c5 (fun k => k ≠ gy ∧ ¬ k < w6.heap.size) (fun _ => False) rfl rfl (Kd.R_nil _ _ _ _ _) HG5.out ?_ ?_ okf.out HB.out HB.out.size ?_ ?_; (intro z cs hz; obtain rfl := k50_open hz; exact k50_mkM _ _ _ z); (intro k hk; exact hk.elim); (show (0 + _) * 16 ≤ _; omega); intro v1 w7 hv1 hb7 hgr7 hat7; rw [List.nil_append] at hv1; have HV := Aside0.mk hv1; have HB7 := Aside0.mk hb7; have HG7 := Aside0.mk hgr7; clear hv1 hb7 hgr7 hat7) | fail)
    replace HY := Aside0.mk (own_other HY.out HG7.out (.inr (by simp [Value.ownBlock])))
    have hs7 : w6.heap.size ≤ w7.heap.size := HG7.out.size
    clear HB HG7 HG5 hcl hfr okf
    refine (timeboundmake_Mod.calls by_ 6 r6 w7 HR6.out).mono ?_
    rintro e w8 ⟨rfl, hd⟩
    have HB8 := Aside0.mk (below_step HB7.out hd.below)
    replace HY := Aside0.mk (pw_own_below HY.out hd.below)
    obtain ⟨nd, rfl⟩ := hd
    replace HV := Aside0.mk (Kd.R_drewN HV.out nd)
    have hs8 : w7.heap.size ≤ (w7.drewN nd).heap.size := by simp
    generalize w7.drewN nd = w8 at HB8 HY HV hs8 ⊢
    clear HB7 HR6
    go_wp2_with fail
    refine (timeboundmake_Mod.calls by_ 3 r3 w8 HR3.out).mono ?_
    rintro e w9 ⟨rfl, hd⟩
    have HB9 := Aside0.mk (below_step HB8.out hd.below)
    replace HY := Aside0.mk (pw_own_below HY.out hd.below)
    obtain ⟨nd2, rfl⟩ := hd
    replace HV := Aside0.mk (Kd.R_drewN HV.out nd2)
    have hs9 : w8.heap.size ≤ (w8.drewN nd2).heap.size := by simp
    generalize w8.drewN nd2 = w9 at HB9 HY HV hs9 ⊢
    clear HB8 HR3
    have HA9 := Aside0.mk (pw_own_below HY.out (below_alloc (Below.refl w9.heap.size w9) (.cells #[.int .i64 (r6 - 1), .int .i64 (r3 - 1)] 50)))
    have HV9 := Aside0.mk (Kd.R_alloc HV.out (.cells #[.int .i64 (r6 - 1), .int .i64 (r3 - 1)] 50))
    have HBa := Aside0.mk (below_alloc HB9.out (.cells #[.int .i64 (r6 - 1), .int .i64 (r3 - 1)] 50))
    have HLIT := Aside0.mk (heap_alloc_new w9 (.cells #[.int .i64 (r6 - 1), .int .i64 (r3 - 1)] 50))
    have HCL : Aside0 (k50.C (w9.alloc (.cells #[.int .i64 (r6 - 1), .int .i64 (r3 - 1)] 50)) (some ⟨w9.heap.size, 0, none⟩) 1 [⟨r6 - 1, r3 - 1⟩]) := ⟨C_block (cs := [_, _]) HLIT.out ((Reps.none _ 2).snoc (k50_mk _ ⟨r6 - 1, r3 - 1⟩) rfl) (by decide) (by simp)⟩
    have okf9 : Aside0 (∀ k, (w9.alloc (.cells #[.int .i64 (r6 - 1), .int .i64 (r3 - 1)] 50)).heap.size ≤ k → k ≠ gy ∧ ¬ k < w6.heap.size) := ⟨fun k hk => by
      have : (w9.alloc (.cells #[.int .i64 (r6 - 1), .int .i64 (r3 - 1)] 50)).heap.size = w9.heap.size + 1 := by simp
      exact ⟨by omega, by omega⟩⟩
    clear HY HV HB9 HLIT
    go_wp2_with (first | (at_builtin; refine Kd.R_append_rows (w0 := w) k50 (Rr := k50.K (w9.alloc (.cells #[.int .i64 (r6 - 1), .int .i64 (r3 - 1)] 50))) w.heap.size rfl _ _ 46 50 _ 16 rfl Try.underlying46 info50 rfl (by decide) (by decide) v1 ys [⟨r6 - 1, r3 - 1⟩] (some ⟨w9.heap.size, 0, none⟩) 1 1 (fun k => k ≠ gy ∧ ¬ k < w6.heap.size) (fun _ => False) rfl rfl HV9.out HCL.out ?_ ?_ okf9.out HBa.out HBa.out.size ?_ ?_; (intro z cs hz; obtain rfl := k50_open hz; exact k50_mkM _ _ _ z); (intro k hk; exact hk.elim); (show (_ + 1) * 16 ≤ _; omega); intro v2 w10 hv2 hb10 hgr10 hat10; obtain ⟨A2, c2, rfl⟩ := Kd.R_slice hv2; have HV2 := Aside0.mk hv2; have HB10 := Aside0.mk hb10; have hnv := Aside0.mk (fun k (h : v1.ownBlock = some k) => HV9.out.1 k h); have HY10 := Aside0.mk (own_other HA9.out hgr10 (.inr (fun e => (hnv.out gy (by rw [← e]; rfl)).1 rfl))); clear hv2 hb10 hgr10 hat10; obtain ⟨⟨u5, hcl, _⟩, hfr⟩ := cell_put (x := x) HY10.out hcxl kk hkl 5 (by omega)) | fail)
    go_ret
    have hlz : (ys ++ [(⟨r6 - 1, r3 - 1⟩ : S50)]).length = ys.length + 1 := by simp
    have HVf := Aside0.mk (Kd.R_far (p := ⟨gy, kk * 7 + 5, none⟩) HV2.out (fun k hk => hk.1) (.slice A2 (ys.length + 1) c2))
    have HBf := Aside0.mk (below_set (j := kk * 7 + 5) (v := .slice A2 (ys.length + 1) c2) HB10.out hgy1)
    have HYf := Aside0.mk (HY10.out.stored (kk * 7 + 5) (.slice A2 (ys.length + 1) c2)).1
    generalize w10.setCell ⟨gy, kk * 7 + 5, none⟩ (.slice A2 (ys.length + 1) c2) = wf at HVf HBf HYf ⊢
    obtain ⟨hv1, hv2, hv3⟩ := Kd.R_reads' HVf.out
    have hr2 := reps_put (reps_below RX.out HBf.out) kk hkl (ys ++ [⟨r6 - 1, r3 - 1⟩]) A2 c2 (by rw [← hv1]; exact hv2) (by rw [← hv1]; exact hv1 ▸ hv3)
    rw [hlz] at hr2
    exact put_out HYf.out hr2 (by simp) hx1 (holds_set (fun y hy => Nat.le_trans (HFW.out y hy) (by omega)) kk _ (by show (ys ++ [(⟨r6 - 1, r3 - 1⟩ : S50)]).length ≤ 3; rw [hlz]; omega)) HBf.out
theorem timeboundlaw40_spoilt.calls (A0 : Option Addr) (c0 : Nat) (x : List S48) (what by_ : Int) (w : World) (hr0 : Kd.C k48 w A0 x.length x) (hc0 : x.length ≤ c0) (hx1 : x.length ≤ 100) (hfew : FewHolds x) :
    Calls Try.prog 16 #[.slice A0 x.length c0, .int .i64 what, .int .i64 by_] w (Spoilt w) := by
  by_cases h : x.length = 0
  · rw [h]
    exact spoilt0.calls A0 c0 what by_ w
  · obtain ⟨ad, rfl, _⟩ := hr0.2.2 (by omega)
    exact spoilt1.calls ad c0 x what by_ w hr0 hc0 (by omega) hx1 hfew
end Go.Proofs.Ytgpdnfhmmeaoeaa.PBt
