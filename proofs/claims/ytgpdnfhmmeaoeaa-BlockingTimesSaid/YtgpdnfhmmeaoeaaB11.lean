/- The law BlockingTimes: its walk. -/
import Derived.Test.YtgpdnfhmmeaoeaaB10
namespace Go.Proofs.Ytgpdnfhmmeaoeaa.PBt
open Go.RowKit Go.Proofs.YtgpdnfhmmeaoeaaW.PrintWords Go.Proofs.YtgpdnfhmmeaoeaaW.PrintLast Go.Proofs.YtgpdnfhmmeaoeaaW.PrintMore
attribute [local go_sem] max2_int min2_int max_two min_two max_three min_three max_four min_four
set_option linter.unusedVariables false
set_option linter.unusedSimpArgs false

theorem sections_fit {w : World} {A : Option Addr} {y : List S48} (h : Kd.C k48 w A y.length y) (j : Nat) : (rd_T48 y j).f5.length ≤ 9223372036854775807 := by
  by_cases hj : j < y.length
  · obtain ⟨ad, A5, c5, _, _, _, _, _, _, _, _, _, g5⟩ := at_T48 h (j : Int) (by omega) (by omega)
    exact g5.2.1
  · have e : rd_T48 y j = z48 := by
      unfold rd_T48
      rw [Int.toNat_natCast, List.getD_eq_getElem?_getD, List.getElem?_eq_none (by omega)]
      rfl
    rw [e]
    exact Nat.zero_le _

set_option maxHeartbeats 8000000 in
set_option maxRecDepth 100000 in
theorem times_walk (A0 : Option Addr) (c0 : Nat) (raw : List S48) (A1 : Option Addr) (c1 : Nat) (l0 : List Int) (what by_ instr : Int) (w : World) (hr0 : Kd.C k48 w A0 raw.length raw) (hc0 : raw.length ≤ c0) (hraw : raw.length ≤ 10) (hr1 : Kd.C (Kd.int .i64) w A1 l0.length l0) (hc1 : l0.length ≤ c1)
    (r0 p0 : Int) (e1 : timeboundmake_Deck_Next.f l0 0 7 = some (r0, p0)) (hb0 : 0 ≤ r0 ∧ r0 ≤ 6) (kj : Nat) (x : List S48) (p1 : Int) (e2 : timeboundmake2_Jobs.f kj l0 p0 r0 = some (x, p1)) (hxl : (x.length : Int) = r0) (hfew : FewHolds x) :
    Calls Try.prog 5 #[.slice A0 raw.length c0, .slice A1 l0.length c1, .int .i64 what, .int .i64 by_, .int .i64 instr] w fun e w' => e = .returned (.bool true) ∧ Below w.heap.size w w' := by
  have hu48 := Try.underlying48
  have hu50 := Try.underlying50
  have HR0 := Aside0.mk hr0
  have HR1 := Aside0.mk hr1
  have E1 := Aside0.mk e1
  have E2 := Aside0.mk e2
  have HXL := Aside0.mk hxl
  have HFW := Aside0.mk hfew
  obtain ⟨hb0a, hb0b⟩ := hb0
  have hraw1 : ¬ (10 : Int) < (raw.length : Int) := by omega
  obtain ⟨n, hn, _, _⟩ := mod_ok instr 60 (by omega) (by omega)
  have HN := Aside0.mk hn
  clear hr0 hr1 e1 e2 hxl hfew hn
  go_enter Try.func5, Try.ntmps5
  go_wp2_with fail
  refine (timeboundmake_New.calls A1 c1 l0 l0 0 w w (Below.refl _ _) HR1.out hc1 rfl).mono ?_
  rintro e w1 ⟨g, rfl, hI, hb, _⟩
  have HI := Aside0.mk hI
  have HB := Aside0.mk hb
  clear hI hb
  go_wp2_with fail
  refine (timeboundmake_Deck_Next.calls g l0 0 7 r0 p0 w w1 HI.out HB.out E1.out).mono ?_
  rintro e w2 ⟨rfl, hI, hb, _⟩
  replace HI := Aside0.mk hI
  replace HB := Aside0.mk hb
  clear hI hb E1
  go_wp2_with fail
  refine (timeboundmake2_Jobs.calls kj g l0 p0 r0 x p1 w w2 HI.out HB.out E2.out).mono ?_
  rintro e w3 ⟨v0, rfl, hS, hI, hb, _⟩
  obtain ⟨Ax, cx, rfl⟩ := Kd.S_slice hS
  have CX := Aside0.mk (Kd.S_reads' hS).2.2
  have hcx : x.length ≤ cx := (Kd.S_reads' hS).2.1
  replace HB := Aside0.mk hb
  clear hI hb E2 hS HI
  have hxs : x.length ≤ 6 := by have := HXL.out; omega
  clear HXL
  go_wp2_with fail
  refine (timeboundlaw40_spoilt.calls Ax cx x what by_ w3 CX.out hcx (by omega) HFW.out).mono ?_
  rintro e w4 ⟨Ay, cy, y, rfl, hcy, hy1, hy2, hCY, hb4⟩
  have CY := Aside0.mk hCY
  have B4 := Aside0.mk hb4
  clear hCY hb4
  have HBK := Aside0.mk (heap_alloc_new w4 (.cells #[.slice Ax x.length cx, .slice Ay y.length cy, .slice A0 raw.length c0] 35))
  have HB5 := Aside0.mk (below_alloc (below_step HB.out B4.out) (.cells #[.slice Ax x.length cx, .slice Ay y.length cy, .slice A0 raw.length c0] 35))
  have CX5 := Aside0.mk (Kd.C_below CX.out (below_alloc B4.out (.cells #[.slice Ax x.length cx, .slice Ay y.length cy, .slice A0 raw.length c0] 35)))
  have CY5 := Aside0.mk (Kd.C_below CY.out (below_alloc (Below.refl w4.heap.size w4) (.cells #[.slice Ax x.length cx, .slice Ay y.length cy, .slice A0 raw.length c0] 35)))
  go_wp2_with fail
  generalize w4.alloc (.cells #[.slice Ax x.length cx, .slice Ay y.length cy, .slice A0 raw.length c0] 35) = w5 at HBK HB5 CX5 CY5 ⊢
  have CR5 := Aside0.mk (Kd.C_below HR0.out HB5.out)
  clear HB B4 CX CY HR0 HR1
  have HEL : Aside0 (∀ (wr : World), Below w5.heap.size w5 wr → ∀ i : Nat, i < 3 → ∃ (A : Option Addr) (c : Nat) (z : List S48), wr.cell? ⟨w4.heap.size, i, none⟩ = some (.slice A z.length c) ∧ z.length ≤ c ∧ z.length ≤ 100 ∧ Kd.C k48 wr A z.length z) := ⟨fun wr hb i hi => by
    rw [blk_cell (blk_below HBK.out hb)]
    rcases (show i = 0 ∨ i = 1 ∨ i = 2 by omega) with rfl | rfl | rfl
    · exact ⟨Ax, cx, x, rfl, hcx, by omega, Kd.C_below CX5.out hb⟩
    · exact ⟨Ay, cy, y, rfl, hcy, hy1, Kd.C_below CY5.out hb⟩
    · exact ⟨A0, c0, raw, rfl, hc0, by omega, Kd.C_below CR5.out hb⟩⟩
  clear HBK CY5 CR5
  go_loopg [42] 3 (fun gg s42 wr => ∃ i : Nat, i ≤ 3 ∧ 3 - i ≤ gg ∧ s42 = .int .i64 i ∧ Aside0 (Below w5.heap.size w5 wr))
  case atStart => exact ⟨0, Nat.zero_le _, by omega, rfl, ⟨Below.refl _ _⟩⟩
  case round =>
    obtain ⟨i, hi, hgg, rfl, BW⟩ := hrel
    by_cases hlt : i < 3
    · have hltz : (i : Int) < 3 := by omega
      obtain ⟨A, c, z, hcell, hzc, hz1, hCZ⟩ := HEL.out wr BW.out i hlt
      have CZ := Aside0.mk hCZ
      have HSF := Aside0.mk (sections_fit hCZ)
      clear hCZ
      obtain ⟨kv, hkv⟩ := refValid_is z (by omega) HSF.out
      have HKV := Aside0.mk hkv
      clear hkv
      go_wp2_with fail
      refine (blocking_Valid.calls A c z (validP z) wr CZ.out hzc rfl).mono ?_
      rintro e wa ⟨rfl, hb⟩
      have BA := Aside0.mk (below_step BW.out hb)
      have CA := Aside0.mk (Kd.C_below CZ.out hb)
      clear hb hcell
      go_wp2_with fail
      refine (timeboundref40_Valid.calls kv A c z (validP z) wa CA.out hzc HKV.out).mono ?_
      rintro e wb ⟨rfl, hb⟩
      have BB := Aside0.mk (below_step BA.out hb)
      have CB := Aside0.mk (Kd.C_below CA.out hb)
      clear hb HKV CA BA CZ BW
      generalize validP z = vz
      go_wp2_with fail
      go_loopg [15] (z.length + 2) (fun gg s15 wr2 => ∃ t : Nat, t ≤ z.length + 2 ∧ z.length + 2 - t ≤ gg ∧ s15 = .int .i64 ((t : Int) - 1) ∧ Aside0 (Below wb.heap.size wb wr2))
      case atStart => exact ⟨0, Nat.zero_le _, by omega, rfl, ⟨Below.refl _ _⟩⟩
      case round =>
        obtain ⟨t, ht, hgg2, rfl, BW2⟩ := hrel
        by_cases hlt2 : t < z.length + 2
        · have hltz2 : (t : Int) - 1 ≤ (z.length : Int) := by omega
          go_wp2_with fail
          go_loopg [16] (z.length + 2) (fun gg s16 wr3 => ∃ u : Nat, u ≤ z.length + 2 ∧ z.length + 2 - u ≤ gg ∧ s16 = .int .i64 ((u : Int) - 1) ∧ Aside0 (Below wb.heap.size wb wr3))
          case atStart => exact ⟨0, Nat.zero_le _, by omega, rfl, BW2⟩
          case round =>
            clear BW2
            obtain ⟨u, hu, hgg3, rfl, BW3⟩ := hrel
            by_cases hlt3 : u < z.length + 2
            · have hltz3 : (u : Int) - 1 ≤ (z.length : Int) := by omega
              have HBF := Aside0.mk (before_is z ((t : Int) - 1) ((u : Int) - 1) (by omega))
              have HBR := Aside0.mk (refBefore_is z ((t : Int) - 1) ((u : Int) - 1))
              generalize beforeP z ((t : Int) - 1) ((u : Int) - 1) = bf at HBF HBR
              go_wp2_with fail
              refine (blocking_Before.calls A c z _ _ bf _ (Kd.C_below CB.out BW3.out) hzc HBF.out).mono ?_
              rintro e wc ⟨rfl, hd⟩
              have BC := Aside0.mk (below_step BW3.out hd.below)
              clear hd
              go_wp2_with fail
              refine (timeboundref40_Before.calls A c z _ _ bf _ (Kd.C_below CB.out BC.out) hzc HBR.out).mono ?_
              rintro e wd ⟨rfl, hd⟩
              have BD := Aside0.mk (below_step BC.out hd.below)
              clear hd BC BW3 HBF HBR
              go_wp2_with fail
              go_roundg (z.length + 2 - (u + 1))
              case measure => omega
              case rel => exact ⟨u + 1, by omega, by omega, by go_num, BD⟩
            · have : u = z.length + 2 := by omega
              subst this
              have hltz3 : ¬ ((z.length + 2 : Nat) : Int) - 1 ≤ (z.length : Int) := by omega
              go_wp2_with fail
              go_roundg (z.length + 2 - (t + 1))
              case measure => omega
              case rel => exact ⟨t + 1, by omega, by omega, by go_num, BW3⟩
        · have : t = z.length + 2 := by omega
          subst this
          have hltz2 : ¬ ((z.length + 2 : Nat) : Int) - 1 ≤ (z.length : Int) := by omega
          go_wp2_with fail
          go_loopg [17] 6 (fun gg s17 wr3 => ∃ u : Nat, u ≤ 6 ∧ 6 - u ≤ gg ∧ s17 = .int .i64 ((u : Int) - 1) ∧ Aside0 (Below wb.heap.size wb wr3))
          case atStart => exact ⟨0, Nat.zero_le _, by omega, rfl, BW2⟩
          case round =>
            clear BW2
            obtain ⟨u, hu, hgg3, rfl, BW3⟩ := hrel
            by_cases hlt3 : u < 6
            · have hltz3 : (u : Int) - 1 ≤ 4 := by omega
              obtain ⟨kc, hkc⟩ := refCeiling_is z ((u : Int) - 1) (by omega) HSF.out
              have HCR := Aside0.mk hkc
              have HCF := Aside0.mk (show blocking_Ceiling.f z ((u : Int) - 1) = some _ from rfl)
              clear hkc
              generalize ((ceilP z ((u : Int) - 1) z.length).1 : Int) = ca at HCR HCF
              generalize (ceilP z ((u : Int) - 1) z.length).2 = cb at HCR HCF
              go_wp2_with fail
              refine (blocking_Ceiling.calls A c z _ ca cb _ (Kd.C_below CB.out BW3.out) hzc HCF.out).mono ?_
              rintro e wc ⟨rfl, hd⟩
              have BC := Aside0.mk (below_step BW3.out hd)
              clear hd
              go_wp2_with fail
              refine (timeboundref40_Ceiling.calls kc A c z _ ca cb _ (Kd.C_below CB.out BC.out) hzc HCR.out).mono ?_
              rintro e wd ⟨rfl, hd⟩
              have BD := Aside0.mk (below_step BC.out hd)
              clear hd BC BW3 HCF HCR
              go_wp2_with fail
              go_roundg (6 - (u + 1))
              case measure => omega
              case rel => exact ⟨u + 1, by omega, by omega, by go_num, BD⟩
            · have : u = 6 := by omega
              subst this
              go_wp2_with fail
              go_roundg (3 - (i + 1))
              case measure => omega
              case rel => exact ⟨i + 1, by omega, by omega, by go_num, ⟨below_step BB.out BW3.out⟩⟩
    · have : i = 3 := by omega
      subst this
      go_wp2_with fail
      go_loopg [99] x.length (fun gg s99 wr2 => ∃ i : Nat, i ≤ x.length ∧ x.length - i ≤ gg ∧ s99 = .int .i64 i ∧ Aside0 (Below w5.heap.size w5 wr2))
      case atStart => exact ⟨0, Nat.zero_le _, by omega, rfl, BW⟩
      case round =>
        clear BW
        obtain ⟨i, hi, hgg2, rfl, BW⟩ := hrel
        by_cases hlt : i < x.length
        · have hltz : (i : Int) < (x.length : Int) := by omega
          have hfx : ∀ j : Nat, (rd_T48 x j).f5.length ≤ 1000 := fun j => few_at (fun z hz => Nat.le_trans (HFW.out z hz) (by omega)) j
          obtain ⟨ka, hka⟩ := Blocking_is x i n (by omega) hfx
          obtain ⟨kb, hkb⟩ := refBlocking_is x i n (by omega) hfx
          generalize blockP x i n = bp at hka hkb
          have HKA := Aside0.mk hka
          have HKB := Aside0.mk hkb
          clear hka hkb hfx
          go_wp2_with fail
          refine (timeboundmake_Mod.calls instr 60 n _ HN.out).mono ?_
          rintro e wa ⟨rfl, hd⟩
          have BA := Aside0.mk (below_step BW.out hd.below)
          clear hd
          go_wp2_with fail
          refine (blocking_Blocking.calls ka Ax cx x i n bp wa (Kd.C_below CX5.out BA.out) hcx HKA.out).mono ?_
          rintro e wb ⟨rfl, hb⟩
          have BB := Aside0.mk (below_step BA.out hb)
          clear hb
          go_wp2_with fail
          refine (timeboundref40_Blocking.calls kb Ax cx x i n bp wb (Kd.C_below CX5.out BB.out) hcx HKB.out).mono ?_
          rintro e wc ⟨rfl, hb⟩
          have BC := Aside0.mk (below_step BB.out hb)
          clear hb BA BB BW HKA HKB
          go_wp2_with fail
          go_roundg (x.length - (i + 1))
          case measure => omega
          case rel => exact ⟨i + 1, by omega, by omega, by go_num, BC⟩
        · have : i = x.length := by omega
          subst this
          have hltz : ¬ (x.length : Int) < (x.length : Int) := by omega
          go_wp2_with fail
          refine (timeboundlaw40_awake.calls0 _).mono ?_
          rintro e wz ⟨rfl, hb⟩
          have BZ := Aside0.mk (below_step (below_step HB5.out BW.out) hb)
          clear hb
          go_wp2_with fail
          go_ret
          exact ⟨rfl, BZ.out⟩
end Go.Proofs.Ytgpdnfhmmeaoeaa.PBt
