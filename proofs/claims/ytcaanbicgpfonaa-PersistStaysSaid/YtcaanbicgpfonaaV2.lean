/- The law PersistStays walked. -/
import Derived.Test.YtcaanbicgpfonaaV0
import Derived.Test.YtcaanbicgpfonaaL2
import Derived.Maps.RangeWalk
import Derived.Maps.OwnOps
import Derived.IntWalk
import Derived.Deep.RegionHeld3
import Derived.BigRegion
namespace Go.Proofs.Ytcaanbicgpfonaa.PPl
open Go.RowKit Go.Proofs.YtcaanbicgpfonaaW.PrintWords Go.Proofs.YtcaanbicgpfonaaW.PrintLast Go.Proofs.YtcaanbicgpfonaaW.PrintMore
set_option linter.unusedVariables false
set_option linter.unusedSimpArgs false

theorem check_ok {s y n : Int} (h : CacheIn s y n) : cache_Check.f s y n = some 0 := by
  obtain ⟨a, b, c, d, e, f⟩ := h
  unfold cache_Check.f cache_between.f
  rw [if_pos (by omega), decide_eq_true (show s ≤ 8 by omega)]
  simp only [Option.bind_some]
  rw [if_pos trivial, if_pos (by omega), decide_eq_true (show y ≤ 4 by omega)]
  simp only [Option.bind_some]
  rw [if_pos trivial, if_pos (by omega), decide_eq_true (show n ≤ 8 by omega)]
  rfl
theorem fits_zero {y n : Int} (h : CacheIn 0 y n) (l : List (List Int)) (k : Int) : persist_Fits.f 0 y n l k = some false := by
  have hs : cache_Set.f 0 y n k = some (-1) := by
    unfold cache_Set.f
    rw [check_ok h]
    simp only [Option.bind_some]
    rw [if_pos trivial]
    by_cases h : k < 0
    · rw [if_pos h]
    · rw [if_neg h, if_pos trivial]
  unfold persist_Fits.f
  rw [hs]
  rfl
theorem fits_is {s y n : Int} (h : CacheIn s y n) (hs : 1 ≤ s) (l : List (List Int)) (hl : (l.length : Int) = s) (k : Int) (hk : 0 ≤ k) : persist_Fits.f s y n l k = some (decide (((l.getD (k % s).toNat []).length : Int) ≤ y)) := by
  have hr0 : 0 ≤ k % s := Int.emod_nonneg _ (by omega)
  have hr1 : k % s < s := Int.emod_lt_of_pos _ (by omega)
  have hset : cache_Set.f s y n k = some (k % s) := by
    unfold cache_Set.f
    rw [check_ok h]
    simp only [Option.bind_some]
    rw [if_pos trivial, if_neg (by omega), if_neg (by omega), Int.tmod_eq_emod_of_nonneg hk]
  unfold persist_Fits.f
  rw [hset]
  simp only [Option.bind_some]
  rw [if_pos hr0, if_pos (by omega), if_pos hr0]
  rfl

theorem sets_add {xss : List (List Int)} {sn : Nat} {al row : List Int} {r : Int} (h : (xss.length : Int) = sn ∧ (∀ i, (xss.getD i []).length ≤ al.length) ∧ ∀ m ∈ al, 0 ≤ m ∧ m < 20 ∧ m ∈ xss.getD (m % (sn : Int)).toNat []) (hr0 : 0 ≤ r) (hr1 : r < 20) (hs : 1 ≤ sn) (hrow : row = xss.getD (r % (sn : Int)).toNat []) :
    ((xss.set (r % (sn : Int)).toNat (row ++ [r])).length : Int) = sn ∧ (∀ i, ((xss.set (r % (sn : Int)).toNat (row ++ [r])).getD i []).length ≤ (al ++ [r]).length) ∧ ∀ m ∈ al ++ [r], 0 ≤ m ∧ m < 20 ∧ m ∈ (xss.set (r % (sn : Int)).toNat (row ++ [r])).getD (m % (sn : Int)).toNat [] := by
  obtain ⟨h1, h2, h3⟩ := h
  have hb : ∀ m : Int, (m % (sn : Int)).toNat < xss.length := fun m => by
    have a := Int.emod_nonneg m (show (sn : Int) ≠ 0 by omega)
    have b := Int.emod_lt_of_pos m (show (0 : Int) < sn by omega)
    omega
  refine ⟨by rw [List.length_set]; exact h1, fun i => ?_, fun m hm => ?_⟩
  · rcases Nat.lt_or_ge i xss.length with hi | hi
    · rw [getD_set_r _ _ _ _ hi]
      split
      · have := h2 (r % (sn : Int)).toNat
        rw [← hrow] at this
        simpa using this
      · have := h2 i
        simp only [List.length_append, List.length_singleton]
        omega
    · rw [List.getD_eq_getElem?_getD, List.getElem?_eq_none (by simpa using hi)]
      simp
  · rw [getD_set_r _ _ _ _ (hb m)]
    rcases List.mem_append.1 hm with hm | hm
    · obtain ⟨a, b, c⟩ := h3 m hm
      refine ⟨a, b, ?_⟩
      split
      · rename_i e
        rw [← e, ← hrow] at c
        exact List.mem_append_left _ c
      · exact c
    · obtain rfl := List.mem_singleton.1 hm
      exact ⟨hr0, hr1, by rw [if_pos rfl]; simp⟩
theorem Both.cell_grown {W W1 : World} {base B : Nat} {xss : List (List Int)} {va v : Value} {al r : List Int} {j : Nat} (h : Both W base B xss va al) (hc : W.cell? ⟨B, j, none⟩ = some v) (hR : RI W base v r) (hg : W.drew.grownBy W1 v.ownBlock) :
    W1.cell? ⟨B, j, none⟩ = some v ∧ W1.frozen? ⟨B, j, none⟩ = false := by
  obtain ⟨hs, f, h1, h2, h3, h4, h5⟩ := h
  have hB : W1.heap[B]? = some (.cells hs.toArray 22 (0, 0)) := by
    refine (hg.block B (blk_lt h1) (fun e => ?_)).trans h1
    obtain ⟨⟨c, hc⟩, _, _⟩ := hR.typed B e.symm
    rw [h1] at hc
    injection hc with hc
    injection hc with _ hc
    cases hc
  refine ⟨?_, blk_frozen hB j⟩
  rw [blk_cell hB, ← blk_cell h1]
  exact hc
theorem blk_cellA {w w1 : World} {a : Addr} {v : Value} (hb : Below w.heap.size w w1) (hc : w.cell? a = some v) : w1.cell? a = some v := (hb.cell (World.block_lt_of_cell? w _ hc)).trans hc
theorem zero3 (w : World) : (zeroValue 3).run Try.prog w = .ok (.int .i64 0) w := by kernel_rfl
theorem lit_inj {a b : Int} (h : (DataW.lit (.int .i64 a) : DataW Unit) = .lit (.int .i64 b)) : a = b := by
  injection h with h
  injection h
theorem Fits_sn (sn : Nat) (y n : Int) (B : Nat) (xss : List (List Int)) (hl : xss.length = sn) (k : Int) (r : Bool) (w : World) (hC : Kd.C (Kd.slice 3 (Kd.int .i64)) w (some ⟨B, 0, none⟩) xss.length xss) (h : persist_Fits.f (sn : Int) y n xss k = some r) :
    Calls Try.prog 16 #[.agg #[.int .i64 (sn : Int), .int .i64 y, .int .i64 n], .slice (some ⟨B, 0, none⟩) sn sn, .int .i64 k] w fun e w' => e = .returned (.bool r) ∧ Below w.heap.size w w' := by
  subst hl
  exact persist_Fits.calls _ y n (some ⟨B, 0, none⟩) xss.length xss k r w hC (Nat.le_refl _) h
theorem keep_below {w w1 w2 : World} {g : Nat} (h : KeepBut w w1 g none) (hb : Below w.heap.size w1 w2) : KeepBut w w2 g none :=
  ⟨Nat.le_trans h.1 hb.size, fun i hi hg hr => (hb.block i hi).trans (h.2 i hi hg hr)⟩
theorem deck_below {w0 W W' : World} {g N : Nat} {L : List Int} {q : Int} (h : IsS51 w0 W g L q) (hb : Below N W W') (hg : g < N) : IsS51 w0 W' g L q := by
  obtain ⟨A0, c0, h1, h2⟩ := h
  exact ⟨A0, c0, (hb.block g hg).trans h1, h2⟩
theorem below_more {w W W' : World} {N : Nat} (h : Below w.heap.size w W) (hb : Below N W W') (hN : w.heap.size ≤ N) : Below w.heap.size w W' := h.trans (hb.mono hN)
set_option maxHeartbeats 8000000 in
set_option maxRecDepth 100000 in
theorem PersistStays.walk (A0 : Option Addr) (c0 : Nat) (l0 : List Int) (w : World) (hr0 : Kd.C (Kd.int .i64) w A0 l0.length l0) (hc0 : l0.length ≤ c0) (hw : l0.length * 8 ≤ 140737488351232) :
    Calls Try.prog 4 #[.slice A0 l0.length c0] w fun e w' => e = .returned (.bool true) ∧ Below w.heap.size w w' := by
  have hu26 := Try.underlying26
  have hu42 := Try.underlying42
  have hmm := @run_makeMap Try.prog
  have HR0 := Aside0.mk hr0
  have hd0 : InDeck l0 0 := ⟨by omega, by omega, by omega⟩
  obtain ⟨s, y, n, q0, hca, hcin, hdq⟩ := cache_made l0 0 hd0
  have HCA := Aside0.mk hca
  have HD := Aside0.mk hdq
  have HCI := Aside0.mk hcin
  obtain ⟨hc1, hc2, hc3, hc4, hc5, hc6⟩ := hcin
  clear hr0 hca hdq hd0
  go_enter Try.func4, Try.ntmps4
  go_wp2_with fail
  refine (timeboundmake_New.calls A0 c0 l0 l0 0 w w (Below.refl _ _) HR0.out hc0 rfl).mono ?_
  rintro e w1 ⟨g, rfl, hI, hB, hB'⟩
  have HI := Aside0.mk hI
  have HB := Aside0.mk hB
  clear hI hB hB'
  go_wp2_with fail
  refine (timeboundmake2_Cache.calls g l0 0 s y n q0 w w1 HI.out HB.out (by unfold timeboundmake2_Cache.f; rw [HCA.out]; rfl)).mono ?_
  rintro e w2 ⟨rfl, hI, hB, hK⟩
  clear HI HB hK HCA
  have HI := Aside0.mk hI
  have HB := Aside0.mk hB
  clear hI hB
  go_wp2_with fail
  have BC := Aside0.mk (heap_alloc_new w2 (.cells #[.int .i64 s, .int .i64 y, .int .i64 n] 26))
  have HGC : Aside0 (g < w2.heap.size) := ⟨HI.out.lt⟩
  have HW2 : Aside0 (w.heap.size ≤ w2.heap.size) := ⟨HB.out.size⟩
  replace HI := Aside0.mk (HI.out.alloc (.cells #[.int .i64 s, .int .i64 y, .int .i64 n] 26))
  replace HB := Aside0.mk (below_alloc HB.out (.cells #[.int .i64 s, .int .i64 y, .int .i64 n] 26))
  generalize w2.alloc (.cells #[.int .i64 s, .int .i64 y, .int .i64 n] 26) = u2 at BC HI HB ⊢
  generalize w2.heap.size = b4 at BC HGC HW2 ⊢
  refine (Contents_calls g l0 q0 s y n w u2 HI.out HB.out HD.out HCI.out).mono ?_
  rintro e u3 ⟨v, x, q, rfl, hS, hG, hD, hI, hB, hK⟩
  obtain ⟨A, cx, rfl⟩ := Kd.S_slice hS
  have HNC : Aside0 (b4 ≠ g) := ⟨by have := HGC.out; omega⟩
  replace BC := Aside0.mk (hK.blk BC.out HNC.out (by simp))
  clear HI HB HD
  have HS := Aside0.mk hS
  have HG := Aside0.mk hG
  have HD := Aside0.mk hD
  have HI := Aside0.mk hI
  have HB := Aside0.mk hB
  clear hS hG hD hI hB hK
  have HX : Aside0 (∃ lx, lx = x.length) := ⟨⟨_, rfl⟩⟩
  obtain ⟨lx, HLX⟩ : ∃ lx, Aside0 (lx = x.length) := ⟨_, ⟨rfl⟩⟩
  rw [← HLX.out] at HS ⊢
  clear HX
  have hc0' : u3.cell? ⟨b4, 0, none⟩ = some (.int .i64 s) := (blk_cell BC.out 0).trans rfl
  have hb4 : b4 < u3.heap.size := blk_lt BC.out
  rcases (show s = 0 ∨ 1 ≤ s by omega) with hs0 | hs1
  · -- no sets
    subst hs0
    have hc1' : u3.cell? ⟨b4, 1, none⟩ = some (.int .i64 y) := (blk_cell BC.out 1).trans rfl
    have hc2' : u3.cell? ⟨b4, 2, none⟩ = some (.int .i64 n) := (blk_cell BC.out 2).trans rfl
    go_wp2_with fail
    clear hc0' hc1' hc2'
    refine (persist_Fits.calls 0 y n none 0 [] 3 false _ (C_nil _ _) (by decide) (fits_zero HCI.out _ _)).mono ?_
    rintro e u4 ⟨rfl, hb⟩
    replace HB := Aside0.mk (below_step (below_alloc HB.out (.cells #[.slice A lx cx] 42)) hb)
    clear hb
    go_wp2_with fail
    refine (timeboundlaw26_awake.calls0 _).mono ?_
    rintro e u5 ⟨rfl, hb⟩
    replace HB := Aside0.mk (below_step HB.out hb)
    clear hb
    go_wp2_with fail
    go_ret
    exact ⟨rfl, HB.out⟩
  · have hs0 : ¬ s = 0 := by omega
    have hsb : (s == 0) = false := beq_eq_false_iff_ne.mpr hs0
    obtain ⟨sn, rfl⟩ := Int.eq_ofNat_of_zero_le hc1
    have hmk : ∀ W : World, (Instr.makeSlice 40 (.int .i64 (sn : Int)) (.int .i64 (sn : Int))).run Try.prog W = .ok (.slice (some ⟨W.heap.size, 0, none⟩) sn sn) (W.alloc (.cells (madeCells #[.slice none 0 0] sn) 22)) := fun W => run_make_row' 40 22 (.slice none 0 0) 24 Try.underlying40 info22 rfl .i64 .i64 sn (by omega) (by omega) W
    go_wp2_with fail
    clear hsb hs0 hmk
    -- the world before the sets
    have hbx := below_alloc (Below.refl u3.heap.size u3) (.cells #[.slice A lx cx] 42)
    have BX := Aside0.mk (heap_alloc_new u3 (.cells #[.slice A lx cx] 42))
    replace BC := Aside0.mk (blk_below BC.out hbx)
    replace HS := Aside0.mk (Kd.S_below HS.out hbx)
    replace HI := Aside0.mk (HI.out.below hbx)
    replace HB := Aside0.mk (below_step HB.out hbx)
    have HXB : Aside0 (g < u3.heap.size ∧ b4 < u3.heap.size ∧ w.heap.size ≤ u3.heap.size) := ⟨by have := HGC.out; omega, hb4, by have := HW2.out; omega⟩
    clear hbx hc0' hb4
    have HSZ : Aside0 ((u3.alloc (.cells #[.slice A lx cx] 42)).heap.size = u3.heap.size + 1) := ⟨by simp⟩
    generalize u3.alloc (.cells #[.slice A lx cx] 42) = WA at BX BC HS HI HB HSZ ⊢
    generalize u3.heap.size = b5 at BX HXB HSZ ⊢
    have HBO := Aside0.mk (Both.made WA sn (by omega))
    rw [HSZ.out] at HBO
    have hbm := below_alloc (Below.refl WA.heap.size WA) (.cells (madeCells #[.slice none 0 0] sn) 22)
    have HKA := Aside0.mk (KeepBut.of_below hbm g none)
    have HDA := HD
    replace HI := Aside0.mk (HI.out.below hbm)
    replace HB := Aside0.mk (below_step HB.out hbm)
    clear hbm
    generalize WA.alloc (.cells (madeCells #[.slice none 0 0] sn) 22) = U at HBO HKA HI HB ⊢
    have HBN : Aside0 (b5 + 1 ≤ U.heap.size) := ⟨by have := HKA.out.1; rw [HSZ.out] at this; exact this⟩
    refine (next_step 8 HI.out HB.out HD.out (by omega)).mono ?_
    rintro e u4 ⟨k0, q1, rfl, hk0, hk1, HD1, HI1, HB1, HK1⟩
    have hg5 := HXB.out.1
    replace HBO := Aside0.mk (Both.keep HBO.out (Nat.le_refl _) HK1.out (by omega))
    replace HKA := Aside0.mk (HKA.out.trans HK1.out (.inl rfl))
    clear HI HB HD HDA HK1
    have HI := HI1
    have HB := HB1
    have HD := HD1
    clear HI1 HB1 HD1 hg5
    go_wp2_with fail
    go_loopg [7, 8] 8 (fun gg s7 s8 wr => ∃ (k : Int) (xss : List (List Int)) (va : Value) (al : List Int) (q : Int), va = s7 ∧ s8 = .int .i64 k ∧ -1 ≤ k ∧ k ≤ 7 ∧ (k + 1).toNat ≤ gg ∧ Aside0 ((al.length : Int) + k ≤ 7 ∧ (k < k0 → 0 < al.length)) ∧ Aside0 ((xss.length : Int) = sn ∧ (∀ i, (xss.getD i []).length ≤ al.length) ∧ ∀ m ∈ al, 0 ≤ m ∧ m < 20 ∧ m ∈ xss.getD (m % sn).toNat []) ∧
      Aside0 (Both wr (b5 + 1) (b5 + 1) xss va al) ∧ Aside0 (KeepBut WA wr g none) ∧ Aside0 (IsS51 w wr g l0 q) ∧ Aside0 (InDeck l0 q) ∧ Aside0 (Below w.heap.size w wr))
    case atStart =>
      exact ⟨k0, List.replicate sn [], .slice none 0 0, [], q1, rfl, rfl, by omega, by omega, by omega, ⟨by simp; omega, fun h => absurd h (by omega)⟩, ⟨by simp, fun i => by
        rw [List.getD_eq_getElem?_getD, List.getElem?_replicate]; split <;> simp, by simp⟩, HBO, HKA, HI, HD, HB⟩
    case round =>
      clear HBO HKA HI HD HB
      obtain ⟨k, xss, va, al, q, rfl, rfl, hkm, hk7, hkg, HAL, HXS, HBO, HKA, HI, HD, HB⟩ := hrel
      have hb4n : b4 ≠ g := HNC.out
      have BCr := Aside0.mk (HKA.out.blk BC.out hb4n (by simp))
      by_cases hkp : 0 ≤ k
      · go_wp2_with fail
        refine (next_step 20 HI.out HB.out HD.out (by omega)).mono ?_
        rintro e v1 ⟨r, q2, rfl, hr0, hr1, HD1, HI1, HB1, HK1⟩
        have hg5 := HXB.out.1
        replace HBO := Aside0.mk (Both.keep HBO.out (Nat.le_refl _) HK1.out (by omega))
        replace HKA := Aside0.mk (HKA.out.trans HK1.out (.inl rfl))
        replace BCr := Aside0.mk (HK1.out.blk BCr.out hb4n (by simp))
        clear HI HB HD HK1
        have HR20 : Aside0 (r < 20) := ⟨by omega⟩
        clear hr1
        have hal : al.length ≤ 8 := by have := HAL.out.1; omega
        have hbs : b5 + 1 ≤ v1.heap.size := by have := HKA.out.1; rw [HSZ.out] at this; exact this
        have HBS := Aside0.mk hbs
        clear hbs
        have BLK2 : Aside0 (∀ W, Below (b5 + 1) v1 W → W.heap[b4]? = some (.cells #[.int .i64 (sn : Int), .int .i64 y, .int .i64 n] 26 (0, 0))) := ⟨fun W h => (h.block b4 (by have := HXB.out.2.1; omega)).trans BCr.out⟩
        have hrs0 : 0 ≤ r % (sn : Int) := Int.emod_nonneg _ (by omega)
        have hrs1 : r % (sn : Int) < (sn : Int) := Int.emod_lt_of_pos _ (by omega)
        obtain ⟨row, HROW⟩ : ∃ row, Aside0 (row = xss.getD (r % (sn : Int)).toNat []) := ⟨_, ⟨rfl⟩⟩
        have hrl : row.length ≤ 8 := by have := HXS.out.2.1 (r % (sn : Int)).toNat; rw [← HROW.out] at this; omega
        have HXL : Aside0 (xss.length = sn) := ⟨by have := HXS.out.1; omega⟩
        go_wp2_with (first | (at_builtin; refine Kd.R_append (Kd.int .i64) (w0 := v1) (b5 + 1) rfl (.tmp 45) (.tmp 47) 22 3 (.int .i64 0) 8 rfl Try.underlying22 info3 rfl (by decide) (by omega) va al r [.int .i64 r] (fun _ => True) (fun _ => False) rfl rfl ?aP (fun _ hk => hk.elim) ?aF ?aO ?aB ?aS ?aL ?_; (case aP => exact rfl); (case aB => exact Below.refl _ _); (case aF => exact (fun _ _ => trivial)); (case aO => exact HBO.out.list); (case aS => exact HBS.out); (case aL => omega); intro va' v2 ho hb hgr hat; have HO := Aside0.mk ho; have HBB := Aside0.mk hb; have BC2 := Aside0.mk (BLK2.out v2 hb); have HBO2 := Aside0.mk (Both.all HBO.out (Nat.le_refl _) ho hgr hat); obtain ⟨Ah, ch, hch, hRh, hfh⟩ := Both.cell HBO2.out (r % sn).toNat (by rw [HXL.out]; omega); rw [← HROW.out] at hch hRh; have HRH := Aside0.mk hRh; have hcs : v2.cell? ⟨b4, 0, none⟩ = some (.int .i64 (sn : Int)) := (blk_cell BC2.out 0).trans rfl; clear ho hb hgr hat hRh) | fail)
        clear hch hcs hfh
        go_loop [10, 57] (fun s10 s57 => ∃ t : Nat, t ≤ row.length ∧ s57 = .int .i64 t ∧ s10 = .bool (hitL row r t)) (fun _ s57 => row.length - (intOf s57).toNat)
        case atStart => exact ⟨0, Nat.zero_le _, rfl, rfl⟩
        case round =>
          obtain ⟨t, ht, rfl, rfl⟩ := hrel
          by_cases hlt : t < row.length
          · obtain ⟨gr, hgr, hcr⟩ := HRH.out.elem t hlt
            subst hgr
            have HHT : Aside0 (hitL row r (t + 1) = if row.getD t 0 = r then true else hitL row r t) := ⟨rfl⟩
            generalize row.getD t 0 = z at hcr HHT
            generalize hitL row r t = hb at HHT ⊢
            cases hb with
            | true =>
              go_wp2_with fail
              go_round
              case rel => exact ⟨t + 1, by omega, by go_num, by rw [HHT.out]; split <;> rfl⟩
              case measure => simp [intOf]; omega
            | false =>
              by_cases hz : z = r
              · have hzb : (z == r) = true := beq_iff_eq.mpr hz
                have HZ := Aside0.mk hz
                clear hz
                go_wp2_with fail
                go_round
                case rel => exact ⟨t + 1, by omega, by go_num, by rw [HHT.out, if_pos HZ.out]⟩
                case measure => simp [intOf]; omega
              · have hzb : (z == r) = false := beq_eq_false_iff_ne.mpr hz
                have HZ := Aside0.mk hz
                clear hz
                go_wp2_with fail
                go_round
                case rel => exact ⟨t + 1, by omega, by go_num, by rw [HHT.out, if_neg HZ.out]⟩
                case measure => simp [intOf]; omega
          · obtain rfl : t = row.length := by omega
            clear hlt
            have HI2 : Aside0 (IsS51 w v2 g l0 q2) := ⟨deck_below HI1.out HBB.out (by have := HXB.out.1; omega)⟩
            have HB2 : Aside0 (Below w.heap.size w v2) := ⟨below_more HB1.out HBB.out (by have := HXB.out.2.2; omega)⟩
            have HK2 : Aside0 (KeepBut WA v2 g none) := ⟨keep_below HKA.out (by rw [HSZ.out]; exact HBB.out)⟩
            have HHIT : Aside0 (hitL row r row.length = true ↔ r ∈ row) := ⟨hitL_mem row r⟩
            generalize hitL row r row.length = hb at HHIT ⊢
            cases hb with
            | true =>
              go_wp2_with fail
              go_roundg k.toNat
              case measure => omega
              case rel =>
                refine ⟨k - 1, xss, va', al ++ [r], q2, rfl, rfl, by omega, by omega, by omega, ⟨by have := HAL.out.1; simp; omega, fun _ => by simp⟩, ⟨HXS.out.1, fun i => Nat.le_trans (HXS.out.2.1 i) (by simp), fun m hm => ?_⟩, HBO2, HK2, HI2, HD1, HB2⟩
                rcases List.mem_append.1 hm with hm | hm
                · exact HXS.out.2.2 m hm
                · obtain rfl := List.mem_singleton.1 hm
                  exact ⟨hr0, HR20.out, by rw [← HROW.out]; exact HHIT.out.1 (by first | rfl | trivial)⟩
            | false =>
              go_wp2_with fail
              have hcs : v2.cell? ⟨b4, 0, none⟩ = some (.int .i64 (sn : Int)) := (blk_cell BC2.out 0).trans rfl
              clear HRH
              obtain ⟨Ah, ch, hch, hRh, hfh⟩ := Both.cell HBO2.out (r % sn).toNat (by rw [HXL.out]; omega)
              rw [← HROW.out] at hch hRh
              have HRH := Aside0.mk hRh
              have HBOd : Aside0 (Both v2.drew (b5 + 1) (b5 + 1) xss va' (al ++ [r])) := ⟨Both.below HBO2.out (Nat.le_refl _) (below_drew1 (Below.refl _ _))⟩
              have BCd := Aside0.mk (blk_drew BC2.out)
              have HRHd := Aside0.mk (Kd.R_below HRH.out (below_drew1 (Below.refl v2.heap.size v2)))
              have HId := Aside0.mk (IsS51.drew HI2.out)
              have HBd := Aside0.mk (below_drew1 HB2.out)
              have HKd := Aside0.mk (keep_below HK2.out (below_drew1 (Below.refl WA.heap.size v2)))
              have HSV2 : Aside0 (b5 + 1 ≤ v2.drew.heap.size) := ⟨by have := HK2.out.1; rw [HSZ.out] at this; exact this⟩
              have BB2 : Aside0 (∀ W : World, v2.drew.grownBy W (Value.slice Ah row.length ch).ownBlock → W.cell? ⟨b5 + 1, (r % (sn : Int)).toNat, none⟩ = some (.slice Ah row.length ch) ∧ W.frozen? ⟨b5 + 1, (r % (sn : Int)).toNat, none⟩ = false) := ⟨fun W hW => Both.cell_grown HBO2.out hch hRh hW⟩
              clear hRh
              have hsnz : ¬ sn = 0 := by omega
              have htm : Int.tmod r (sn : Int) = r % (sn : Int) := Int.tmod_eq_emod_of_nonneg hr0
              refine start_ (n := 17) (S := fun w' => w'.cell? ⟨b4, 0, none⟩ = some (.int .i64 (sn : Int)) ∧ w'.cell? ⟨b5 + 1, (r % (sn : Int)).toNat, none⟩ = some (.slice Ah row.length ch)) (ds := [16]) #[false, false, false, false, false, false, false, false, false, false, false, false, false, false, false, false, false] (by kernel_rfl) rfl rfl ⟨hcs, hch⟩ (fun hHeld => ?_)
              have HHD := Aside0.mk hHeld
              clear hcs hch hfh HBO2 BC2 HRH HI2 HB2 HK2
              generalize v2.drew = vd at hHeld HHD HBOd BCd HRHd HSV2 BB2 HId HBd HKd ⊢
              refine take_ (i := 0) (N := some 70) (v := ?_) (a' := ?_) #[true, false, false, false, false, false, false, false, false, false, false, false, false, false, false, false, false] rfl rfl (by kernel_rfl) (fun _ _ _ h => h) (Or.inl ⟨by rfl, ?_⟩) hHeld ?_ ?_
              rotate_left
              · rintro w' ⟨s0, s1⟩
                go_simp
                with_reducible rfl
              rotate_left
              · simp only [Act.put, List.setIfInBounds_toArray, List.set_cons_zero, List.set_cons_succ]
                rfl
              refine take_ (i := 1) (N := some 71) (v := ?_) (a' := ?_) #[true, true, false, false, false, false, false, false, false, false, false, false, false, false, false, false, false] rfl rfl (by kernel_rfl) (fun _ _ _ h => h) (Or.inl ⟨by rfl, ?_⟩) hHeld ?_ ?_
              rotate_left
              · rintro w' ⟨s0, s1⟩
                go_simp
                with_reducible rfl
              rotate_left
              · simp only [Act.put, List.setIfInBounds_toArray, List.set_cons_zero, List.set_cons_succ]
                rfl
              refine take_ (i := 2) (N := some 72) (v := ?_) (a' := ?_) #[true, true, true, false, false, false, false, false, false, false, false, false, false, false, false, false, false] rfl rfl (by kernel_rfl) (fun _ _ _ h => h) (Or.inl ⟨by rfl, ?_⟩) hHeld ?_ ?_
              rotate_left
              · rintro w' ⟨s0, s1⟩
                go_simp
                with_reducible rfl
              rotate_left
              · simp only [Act.put, List.setIfInBounds_toArray, List.set_cons_zero, List.set_cons_succ]
                rfl
              refine take_ (i := 3) (N := some 73) (v := ?_) (a' := ?_) #[true, true, true, true, false, false, false, false, false, false, false, false, false, false, false, false, false] rfl rfl (by kernel_rfl) (fun _ _ _ h => h) (Or.inl ⟨by rfl, ?_⟩) hHeld ?_ ?_
              rotate_left
              · rintro w' ⟨s0, s1⟩
                go_simp
                with_reducible rfl
              rotate_left
              · simp only [Act.put, List.setIfInBounds_toArray, List.set_cons_zero, List.set_cons_succ]
                rfl
              refine take_ (i := 4) (N := some 74) (v := ?_) (a' := ?_) #[true, true, true, true, true, false, false, false, false, false, false, false, false, false, false, false, false] rfl rfl (by kernel_rfl) (fun _ _ _ h => h) (Or.inl ⟨by rfl, ?_⟩) hHeld ?_ ?_
              rotate_left
              · rintro w' ⟨s0, s1⟩
                go_simp
                with_reducible rfl
              rotate_left
              · simp only [Act.put, List.setIfInBounds_toArray, List.set_cons_zero, List.set_cons_succ]
                rfl
              refine take_ (i := 5) (N := some 75) (v := ?_) (a' := ?_) #[true, true, true, true, true, true, false, false, false, false, false, false, false, false, false, false, false] rfl rfl (by kernel_rfl) (fun _ _ _ h => h) (Or.inl ⟨by rfl, ?_⟩) hHeld ?_ ?_
              rotate_left
              · rintro w' ⟨s0, s1⟩
                go_simp
                with_reducible rfl
              rotate_left
              · simp only [Act.put, List.setIfInBounds_toArray, List.set_cons_zero, List.set_cons_succ]
                rfl
              refine take_ (i := 6) (N := some 76) (v := ?_) (a' := ?_) #[true, true, true, true, true, true, true, false, false, false, false, false, false, false, false, false, false] rfl rfl (by kernel_rfl) (fun _ _ _ h => h) (Or.inl ⟨by rfl, ?_⟩) hHeld ?_ ?_
              rotate_left
              · rintro w' ⟨s0, s1⟩
                go_simp
                with_reducible rfl
              rotate_left
              · simp only [Act.put, List.setIfInBounds_toArray, List.set_cons_zero, List.set_cons_succ]
                rfl
              refine take_ (i := 7) (N := some 77) (v := ?_) (a' := ?_) #[true, true, true, true, true, true, true, true, false, false, false, false, false, false, false, false, false] rfl rfl (by kernel_rfl) (fun _ _ _ h => h) (Or.inl ⟨by rfl, ?_⟩) hHeld ?_ ?_
              rotate_left
              · rintro w' ⟨s0, s1⟩
                go_simp
                with_reducible rfl
              rotate_left
              · simp only [Act.put, List.setIfInBounds_toArray, List.set_cons_zero, List.set_cons_succ]
                rfl
              refine take_ (i := 8) (N := some 78) (v := ?_) (a' := ?_) #[true, true, true, true, true, true, true, true, true, false, false, false, false, false, false, false, false] rfl rfl (by kernel_rfl) (fun _ _ _ h => h) (Or.inl ⟨by rfl, ?_⟩) hHeld ?_ ?_
              rotate_left
              · rintro w' ⟨s0, s1⟩
                go_simp
                with_reducible rfl
              rotate_left
              · simp only [Act.put, List.setIfInBounds_toArray, List.set_cons_zero, List.set_cons_succ]
                rfl
              refine take_ (i := 9) (N := some 79) (v := ?_) (a' := ?_) #[true, true, true, true, true, true, true, true, true, true, false, false, false, false, false, false, false] rfl rfl (by kernel_rfl) (fun _ _ _ h => h) (Or.inl ⟨by rfl, ?_⟩) hHeld ?_ ?_
              rotate_left
              · rintro w' ⟨s0, s1⟩
                go_simp
                with_reducible rfl
              rotate_left
              · simp only [Act.put, List.setIfInBounds_toArray, List.set_cons_zero, List.set_cons_succ]
                rfl
              refine take_ (i := 10) (N := some 80) (v := ?_) (a' := ?_) #[true, true, true, true, true, true, true, true, true, true, true, false, false, false, false, false, false] rfl rfl (by kernel_rfl) (fun _ _ _ h => h) (Or.inl ⟨by rfl, ?_⟩) hHeld ?_ ?_
              rotate_left
              · rintro w' ⟨s0, s1⟩
                go_simp
                with_reducible rfl
              rotate_left
              · simp only [Act.put, List.setIfInBounds_toArray, List.set_cons_zero, List.set_cons_succ]
                rfl
              refine take_ (i := 11) (N := some 81) (v := ?_) (a' := ?_) #[true, true, true, true, true, true, true, true, true, true, true, true, false, false, false, false, false] rfl rfl (by kernel_rfl) (fun _ _ _ h => h) (Or.inl ⟨by rfl, ?_⟩) hHeld ?_ ?_
              rotate_left
              · rintro w' ⟨s0, s1⟩
                go_simp
                with_reducible rfl
              rotate_left
              · simp only [Act.put, List.setIfInBounds_toArray, List.set_cons_zero, List.set_cons_succ]
                rfl
              refine take_ (i := 12) (N := some 82) (v := ?_) (a' := ?_) #[true, true, true, true, true, true, true, true, true, true, true, true, true, false, false, false, false] rfl rfl (by kernel_rfl) (fun _ _ _ h => h) (Or.inl ⟨by rfl, ?_⟩) hHeld ?_ ?_
              rotate_left
              · rintro w' ⟨s0, s1⟩
                go_simp
                with_reducible rfl
              rotate_left
              · simp only [Act.put, List.setIfInBounds_toArray, List.set_cons_zero, List.set_cons_succ]
                rfl
              refine one_ (i := 13) (N := some 83) #[true, true, true, true, true, true, true, true, true, true, true, true, true, true, false, false, false] rfl rfl (by kernel_rfl) (by decide) (fun K hK => ?_)
              go_simp
              refine hK.out _ _ ⟨(blk_cell (blk_alloc BCd.out _) 0).trans rfl, (blk_cellA (below_alloc (Below.refl vd.heap.size vd) _) hHeld.2)⟩ (fun hHeld => ?_)
              clear hK K
              refine one_ (i := 14) (N := some 84) #[true, true, true, true, true, true, true, true, true, true, true, true, true, true, true, false, false] rfl rfl (by kernel_rfl) (by decide) (fun K hK => ?_)
              refine Kd.R_append_step (Kd.int .i64) (w0 := vd) (b5 + 1) (by rfl) (.tmp 81) (.tmp 83) 22 3 (.int .i64 0) 8 rfl Try.underlying22 info3 rfl (by decide) (by omega) (.slice Ah row.length ch) row r [.int .i64 r] (fun _ => True) (fun _ => False) rfl rfl ?aP (fun _ hk => hk.elim) ?aF ?aO ?aB ?aS ?aL ?_; (case aP => exact rfl); (case aB => exact Below.refl _ _); (case aF => exact (fun _ _ => trivial)); (case aO => exact HRHd.out); (case aS => exact HSV2.out); (case aL => omega)
              intro v' v3 ho hb hgr hat
              obtain ⟨A3, c3, rfl⟩ := Kd.R_slice ho
              obtain ⟨l3, HL3⟩ : ∃ l3, Aside0 (l3 = (row ++ [r]).length) := ⟨_, ⟨rfl⟩⟩
              rw [← HL3.out] at ho hat ⊢
              have HO3 := Aside0.mk ho
              have HBB3 := Aside0.mk hb
              have HGR3 := Aside0.mk hgr
              have HAT3 := Aside0.mk hat
              have hcs3 : v3.cell? ⟨b4, 0, none⟩ = some (.int .i64 (sn : Int)) := (blk_cell ((hb.block b4 (by have := HXB.out.2.1; omega)).trans BCd.out) 0).trans rfl
              have HB3 := Aside0.mk (BB2.out v3 hgr)
              have hch3 : v3.cell? ⟨b5 + 1, (r % (sn : Int)).toNat, none⟩ = some (.slice Ah row.length ch) := HB3.out.1
              have hfh3 : v3.frozen? ⟨b5 + 1, (r % (sn : Int)).toNat, none⟩ = false := HB3.out.2
              clear ho hb hgr hat
              refine hK.out _ _ ⟨hcs3, hch3⟩ (fun hHeld => ?_)
              clear hK K
              refine take_ (i := 15) (N := some 85) (v := ?_) (a' := ?_) #[true, true, true, true, true, true, true, true, true, true, true, true, true, true, true, true, false] rfl rfl (by kernel_rfl) (fun _ _ _ h => h) (Or.inl ⟨by rfl, ?_⟩) hHeld ?_ ?_
              rotate_left
              · rintro w' ⟨s0, s1⟩
                go_simp
                with_reducible rfl
              rotate_left
              · simp only [Act.put, List.setIfInBounds_toArray, List.set_cons_zero, List.set_cons_succ]
                rfl
              refine last_ (i := 16) (N := none) #[true, true, true, true, true, true, true, true, true, true, true, true, true, true, true, true, true] rfl rfl (by kernel_rfl) (by decide) (fun K hK => ?_)
              go_simp
              refine hK.out _ _ ?_
              clear hK K
              refine done_ (by kernel_rfl) ?_
              clear hsnz htm
              go_wp2_with fail
              have hbw : Below (b5 + 1) vd (v3.setCell ⟨b5 + 1, (r % (sn : Int)).toNat, none⟩ (.slice A3 l3 c3)) := HBB3.out.setCell (Nat.le_refl _) _
              have HBW := Aside0.mk hbw
              clear hbw
              go_roundg k.toNat
              case measure => omega
              case rel =>
                exact ⟨k - 1, xss.set (r % (sn : Int)).toNat (row ++ [r]), va', al ++ [r], q2, rfl, rfl, by omega, by omega, by omega, ⟨by have := HAL.out.1; simp; omega, fun _ => by simp⟩, ⟨sets_add HXS.out hr0 HR20.out (by omega) HROW.out⟩,
                  ⟨Both.row HBOd.out (Nat.le_refl _) _ (by rw [HXL.out]; omega) HHD.out.2 HO3.out HGR3.out HAT3.out⟩, ⟨keep_below HKd.out (by rw [HSZ.out]; exact HBW.out)⟩, ⟨deck_below HId.out HBW.out (by have := HXB.out.1; omega)⟩, HD1, ⟨below_more HBd.out HBW.out (by have := HXB.out.2.2; omega)⟩⟩
      · obtain rfl : k = -1 := by omega
        have hkn : ¬ (0 : Int) ≤ -1 := by omega
        obtain ⟨hal0, hal1⟩ := HAL.out
        have halp : 0 < al.length := hal1 (by omega)
        have hal8 : al.length ≤ 8 := by omega
        obtain ⟨hxl, hxr, hxm⟩ := HXS.out
        have HXR := Aside0.mk hxr
        have HXM := Aside0.mk hxm
        have HXL := Aside0.mk hxl
        clear hal0 hal1 HAL HXS hxl hxr hxm hkn
        obtain ⟨Aa, ca, rfl⟩ := Kd.R_slice HBO.out.list
        have BXr := Aside0.mk (HKA.out.blk BX.out (by have := HXB.out.1; omega) (by simp))
        have HSr := Aside0.mk (Kd.S_mono (Kd.S_keep HS.out HKA.out (fun k hk => hk)) (ok' := fun _ => True) (fun _ _ => trivial))
        have HN1 : Aside0 (b5 + 1 ≤ wr.heap.size) := ⟨by have := HKA.out.1; rw [HSZ.out] at this; exact this⟩
        go_wp2_with fail
        have hbm := below_alloc (Below.refl wr.heap.size wr) (.map #[] 0)
        replace BCr := Aside0.mk (blk_below BCr.out hbm)
        replace BXr := Aside0.mk (blk_below BXr.out hbm)
        replace HSr := Aside0.mk (Kd.S_below HSr.out hbm)
        replace HBO := Aside0.mk (Both.below HBO.out (Nat.le_refl _) hbm)
        replace HI := Aside0.mk (HI.out.below hbm)
        replace HB := Aside0.mk (below_step HB.out hbm)
        have HCT := Aside0.mk (Counts.start wr)
        have HNM : Aside0 (b5 + 1 ≤ wr.heap.size) := HN1
        clear hbm HN1 HKA
        generalize wr.alloc (.map #[] 0) = WB at BCr BXr HSr HBO HI HB HCT ⊢
        generalize wr.heap.size = bm at HCT HNM ⊢
        have HMI : Aside0 (MissInv sn y xss x (fun _ => 0)) := ⟨MissInv.start HG.out⟩
        have HNG : Aside0 (g ≠ bm ∧ b5 ≠ bm ∧ b4 ≠ bm ∧ b4 ≠ b5) := ⟨by have := HXB.out; have := HNM.out; omega, by have := HNM.out; omega, by have := HXB.out; have := HNM.out; omega, by have := HXB.out; omega⟩
        have HMB : Aside0 (∀ cells t, WB.heap[bm]? ≠ some (.cells cells t (0, 0))) := ⟨HCT.out.block⟩
        go_loopg [87] 60 (fun gg s87 wr => ∃ (i : Nat) (q : Int) (miss : Int → Int) (x : List (List Int)) (A : Option Addr) (c : Nat) (bs : Nat), s87 = .int .i64 i ∧ i ≤ 60 ∧ 60 - i ≤ gg ∧ Aside0 (KeepThree WB wr g b5 bm) ∧ Aside0 (wr.heap[b5]? = some (.cells #[.slice A x.length c] 42 (0, 0))) ∧ Aside0 (Kd.S (Kd.slice 3 (Kd.int .i64)) 22 wr bs (fun _ => True) (.slice A x.length c) x) ∧
          Aside0 (Counts wr bm i miss ∧ ∀ m, 0 ≤ miss m ∧ miss m ≤ i) ∧ Aside0 (MissInv sn y xss x miss) ∧ Aside0 (IsS51 w wr g l0 q) ∧ Aside0 (InDeck l0 q) ∧ Aside0 (Below w.heap.size w wr))
        case atStart => exact ⟨0, q, fun _ => 0, x, A, cx, _, rfl, by omega, by omega, ⟨KeepThree.refl _ _ _ _⟩, by rw [← HLX.out]; exact BXr, by rw [← HLX.out]; exact HSr, ⟨HCT.out, fun m => ⟨by show (0 : Int) ≤ 0; omega, by show (0 : Int) ≤ ((0 : Nat) : Int); omega⟩⟩, HMI, HI, HD, HB⟩
        case round =>
          clear HSr HCT HMI HI HB HD BXr
          obtain ⟨i, q3, miss, x, A, c, bs, rfl, hi60, hig, HK3, BXr, HSr, HCT, HMI, HI, HD, HB⟩ := hrel
          by_cases hi : i < 60
          · have hg5 := HXB.out
            have hng := HNG.out
            go_wp2_with fail
            refine (next_step (al.length : Int) HI.out HB.out HD.out (by omega)).mono ?_
            rintro e v1 ⟨r, q4, rfl, hr0, hr1, HD1, HI1, HB1, HK1⟩
            have HLW : Aside0 (w.heap.size ≤ v1.heap.size) := ⟨HB1.out.size⟩
            have hrl : r < (al.length : Int) := by omega
            obtain ⟨rn, rfl⟩ := Int.eq_ofNat_of_zero_le hr0
            have hrn : rn < al.length := by omega
            replace HK3 := Aside0.mk (HK3.out.deck HK1.out)
            replace BXr := Aside0.mk (HK1.out.blk BXr.out (by omega) (by simp))
            replace HSr := Aside0.mk (S_deck HSr.out HI.out HK1.out)
            obtain ⟨hct, hmb⟩ := HCT.out
            replace HCT := Aside0.mk (hct.deck HK1.out (Ne.symm hng.1))
            have HMBD := Aside0.mk hmb
            clear hct hmb HK1 HI HD HB hr1
            have HBO1 := Aside0.mk (HK3.out.both (Nat.le_refl _) HBO.out (by omega) (by omega) HMB.out)
            have BC1 := Aside0.mk (HK3.out.blk BCr.out HNC.out (by omega) (by omega))
            obtain ⟨ga, hga, hcell⟩ := HBO1.out.list.elem rn hrn
            subst hga
            obtain ⟨hn0, hn20, hnm⟩ := HXM.out (al.getD rn 0) (by rw [List.getD_eq_getElem?_getD, List.getElem?_eq_getElem hrn]; exact List.getElem_mem _)
            have HNM2 := Aside0.mk hnm
            clear hnm
            generalize al.getD rn 0 = nn at hn0 hn20 HNM2 hcell ⊢
            have hb5c := blk_cell BXr.out 0
            replace hb5c : v1.cell? ⟨b5, 0, none⟩ = some (.slice A x.length c) := hb5c
            have HGX : Aside0 (GoodC sn y x) := ⟨HMI.out.1⟩
            have HXN : Aside0 (x.length = sn) := ⟨by have := HGX.out.1; omega⟩
            have HWAY : Aside0 (∀ r ∈ x, 0 < r.length ∧ r.length ≤ 8) := ⟨fun r hr => by have := (HGX.out.2 r hr).1; omega⟩
            have HKC : Aside0 (∃ k, timeboundref22_Copy.f k x = some x) := ⟨copy_is x (by rw [HXN.out]; omega) (fun r hr => (HWAY.out r hr).2)⟩
            obtain ⟨kc, hkc⟩ := HKC.out
            have HKC := Aside0.mk hkc
            clear hkc
            have hsn4 : sn ≤ 4 := by omega
            go_wp2_with fail
            refine (timeboundref22_Copy.calls kc A c x x _ (Kd.S_reads' HSr.out).2.2 (Kd.S_reads' HSr.out).2.1 HKC.out).mono ?_
            rintro e v2 ⟨vy, rfl, hSy, hb⟩
            obtain ⟨Ay, cy, rfl⟩ := Kd.S_slice hSy
            have HLB : Aside0 (WB.heap.size ≤ v1.heap.size) := ⟨HK3.out.1⟩
            have HSY := Aside0.mk hSy
            replace HK3 := Aside0.mk (HK3.out.below hb)
            replace BXr := Aside0.mk (blk_below BXr.out hb)
            replace BC1 := Aside0.mk (blk_below BC1.out hb)
            replace HCT := Aside0.mk (HCT.out.below hb)
            replace HI1 := Aside0.mk (HI1.out.below hb)
            replace HB1 := Aside0.mk (below_step HB1.out hb)
            clear hb hSy hb5c hcell HSr HBO1 HKC
            have hd0 : v2.cell? ⟨b4, 0, none⟩ = some (.int .i64 (sn : Int)) := (blk_cell BC1.out 0).trans rfl
            have hd1 : v2.cell? ⟨b4, 1, none⟩ = some (.int .i64 y) := (blk_cell BC1.out 1).trans rfl
            have hd2 : v2.cell? ⟨b4, 2, none⟩ = some (.int .i64 n) := (blk_cell BC1.out 2).trans rfl
            have hb4 : b4 < v2.heap.size := blk_lt BC1.out
            have hmul0 : 0 ≤ nn * n := Int.mul_nonneg hn0 (by omega)
            have hmul1 : nn * n ≤ 100 := by
              have h1 : nn * n ≤ 20 * n := Int.mul_le_mul_of_nonneg_right (by omega) (by omega)
              omega
            go_wp2_with fail
            clear hd0 hd1 hd2 hb4
            have HBY : Aside0 (b5 ≠ v2.heap.size) := ⟨by have := blk_lt BXr.out; omega⟩
            have hbo := below_alloc (Below.refl v2.heap.size v2) (.cells #[.slice Ay x.length cy] 42)
            have BY := Aside0.mk (heap_alloc_new v2 (.cells #[.slice Ay x.length cy] 42))
            replace HK3 := Aside0.mk (HK3.out.below hbo)
            replace BXr := Aside0.mk (blk_below BXr.out hbo)
            replace BC1 := Aside0.mk (blk_below BC1.out hbo)
            replace HCT := Aside0.mk (HCT.out.below hbo)
            replace HI1 := Aside0.mk (HI1.out.below hbo)
            replace HB1 := Aside0.mk (below_step HB1.out hbo)
            replace HSY := Aside0.mk (Kd.S_below HSY.out hbo)
            clear hbo
            generalize v2.alloc (.cells #[.slice Ay x.length cy] 42) = v3 at BY HK3 BXr BC1 HCT HI1 HB1 HSY ⊢
            generalize v2.heap.size = by_ at BY HBY ⊢
            have hdiv : nn * n / n = nn := Int.mul_ediv_cancel _ (by omega)
            have HDV := Aside0.mk hdiv
            clear hdiv
            refine (Use_calls sn y n (.slice Ay x.length cy) x (nn * n) v3 v1.heap.size (fun _ => True) HSY.out HGX.out.1 HWAY.out hs1 (by omega) (by omega) (by omega) hmul0 (by omega)).mono ?_
            rintro e v4 ⟨rfl, hS4, hW4⟩
            rw [HDV.out] at hS4 ⊢
            have HS4 := Aside0.mk hS4
            have BY4 := Aside0.mk (hW4.blk BY.out (by decide))
            have BX4 := Aside0.mk (hW4.blk BXr.out (by decide))
            have HK4 := Aside0.mk (HK3.out.wrote hW4 HLB.out)
            have HCT4 := Aside0.mk (HCT.out.wrote hW4)
            have HI4 := Aside0.mk (hW4.deck HI1.out)
            have HB4 := Aside0.mk (hW4.below HB1.out HLW.out)
            clear hS4 hW4 HSY BY BXr HK3 HCT HI1 HB1 BC1
            have hns0 : 0 ≤ nn % (sn : Int) := Int.emod_nonneg _ (by omega)
            have HMI2 := Aside0.mk (HMI.out.use hs1 hc3 nn hn0 (nn % (sn : Int)).toNat (by omega) HNM2.out)
            have HUL : Aside0 ((useG x (nn % (sn : Int)).toNat nn).length = x.length) := ⟨by unfold useG; rw [List.length_set]⟩
            clear HMI hns0
            generalize useG x (nn % (sn : Int)).toNat nn = x2 at HS4 HMI2 HUL ⊢
            generalize hitG x (nn % (sn : Int)).toNat nn = hb at HMI2 ⊢
            cases hb with
            | true =>
              have hcl := blk_cell BY4.out 0
              replace hcl : v4.cell? ⟨by_, 0, none⟩ = some (.slice Ay x.length cy) := hcl
              have hb5c := blk_cell BX4.out 0
              replace hb5c : v4.cell? ⟨b5, 0, none⟩ = some (.slice A x.length c) := hb5c
              have hb5f := blk_frozen BX4.out 0
              go_wp2_with fail
              clear hcl hb5c hb5f
              go_roundg (60 - (i + 1))
              case measure => omega
              case rel =>
                exact ⟨i + 1, q4, miss, x2, Ay, cy, _, by go_num, by omega, by omega, ⟨HK4.out.set _⟩, ⟨by rw [HUL.out]; exact blk_set BX4.out 0 _⟩, ⟨by rw [HUL.out]; exact S_set42 HS4.out BX4.out _⟩, ⟨(HCT4.out.move (Below.heap_setCell v4 ⟨b5, 0, none⟩ _ bm (by simpa using Ne.symm hng.2.1))).more (by omega), fun m => by have := HMBD.out m; omega⟩, ⟨by have h := HMI2.out; simpa using h⟩, ⟨HI4.out.far (by simp; omega) _⟩, HD1, ⟨below_set HB4.out (by omega)⟩⟩
            | false =>
              obtain ⟨D, hown, hDm, hDat⟩ := HCT4.out
              have HOWN := Aside0.mk hown
              have HDM := Aside0.mk hDm
              have HDAT := Aside0.mk hDat
              have hwf := wf_small hn0 (show nn ≤ 1000000 by omega)
              have HWF := Aside0.mk hwf
              obtain ⟨hmn0, hmn1⟩ := HMBD.out nn
              obtain ⟨mv, HMV⟩ : ∃ mv, Aside0 (mv = miss nn) := ⟨_, ⟨rfl⟩⟩
              rw [← HMV.out] at hmn0 hmn1
              have hmv60 : mv ≤ 60 := by omega
              clear hown hDm hDat hwf
              go_wp2_with (first
                | (at_lookup; refine wpList_lookup_own_int _ rfl _ _ 46 rfl 3 3 .i64 (Maps.int_keyed Try.underlying3) Try.underlying46 Try.underlying3 (zero3 _) bm i _ rfl HOWN.out _ _ rfl (Maps.keyOf_int_mk Try.underlying3 HWF.out) ?_; intro cc hat hwc; have hcc : cc = miss nn := lit_inj (hat.symm.trans (HDAT.out nn HWF.out)); rw [← HMV.out] at hcc; replace hcc := hcc.symm; subst hcc; clear hat hwc)
                | (at_mapUpdate; refine wpList_mapUpdate_own _ rfl _ _ _ 46 rfl 3 3 (Maps.int_keyed Try.underlying3) Try.underlying46 _ bm i _ rfl HOWN.out (by unfold maxLen; omega) _ _ (.int .i64 nn) rfl rfl (Maps.keyOf_int_mk Try.underlying3 HWF.out) (.lit (.int .i64 (mv + 1))) [] (plainElem_int Try.underlying3 (wf_small (by omega) (by omega))) ?_; intro v5 hown5 hgrow5; have HOWN5 := Aside0.mk hown5; have HGR5 := Aside0.mk hgrow5; have BY5 := Aside0.mk (blk_grown BY4.out hgrow5 (by intro e; injection e with e; exact HCT4.out.block _ _ (e ▸ BY4.out))); have BX5 := Aside0.mk (blk_grown BX4.out hgrow5 (by intro e; injection e with e; exact HCT4.out.block _ _ (e ▸ BX4.out))); have hcl : v5.cell? ⟨by_, 0, none⟩ = some (.slice Ay x.length cy) := blk_cell BY5.out 0; have hb5c : v5.cell? ⟨b5, 0, none⟩ = some (.slice A x.length c) := blk_cell BX5.out 0; have hb5f := blk_frozen BX5.out 0; clear hown5 hgrow5)
                | fail)
              clear hcl hb5c hb5f
              have HK5 := Aside0.mk (HK4.out.map HGR5.out)
              have HS5 := Aside0.mk (S_map HS4.out HCT4.out.block HGR5.out)
              have HI5 : Aside0 (IsS51 w v5 g l0 q4) := ⟨HI4.out.grown HGR5.out (by intro e; injection e with e; exact hng.1 e)⟩
              have HB5 : Aside0 (Below w.heap.size w v5) := ⟨Below.grown HB4.out HGR5.out HB4.out.size (fun k hk => by injection hk with hk; have := HNM.out; omega)⟩
              have HCT5 : Aside0 (Counts v5 bm (i + 1) (fun m => if m = nn then mv + 1 else miss m)) := ⟨counts_put HWF.out HOWN5.out HDM.out HDAT.out⟩
              go_roundg (60 - (i + 1))
              case measure => omega
              case rel =>
                exact ⟨i + 1, q4, _, x2, Ay, cy, _, by go_num, by omega, by omega, ⟨HK5.out.set _⟩, ⟨by rw [HUL.out]; exact blk_set BX5.out 0 _⟩, ⟨by rw [HUL.out]; exact S_set42 HS5.out BX5.out _⟩, ⟨HCT5.out.move (Below.heap_setCell v5 ⟨b5, 0, none⟩ _ bm (by simpa using Ne.symm hng.2.1)), fun m => by
                  have := HMBD.out m
                  show 0 ≤ (if m = nn then mv + 1 else miss m) ∧ (if m = nn then mv + 1 else miss m) ≤ _
                  split <;> omega⟩, ⟨by have h := HMI2.out; rw [← HMV.out] at h; simpa using h⟩, ⟨HI5.out.far (by simp; omega) _⟩, HD1, ⟨below_set HB5.out (by omega)⟩⟩
          · obtain rfl : i = 60 := by omega
            obtain ⟨wo, HWO⟩ : ∃ wo : World, Aside0 (wo = wr) := ⟨_, ⟨rfl⟩⟩
            rw [← HWO.out] at HK3 HCT HB ⊢
            have hg5 := HXB.out
            have hng := HNG.out
            have HBOF : Aside0 (∀ W, Below wo.heap.size wo W → Both W (b5 + 1) (b5 + 1) xss (.slice Aa al.length ca) al) := ⟨fun W h => Both.below (HK3.out.both (Nat.le_refl _) HBO.out (by omega) (by omega) HMB.out) (Nat.le_refl _) h⟩
            have HBCF : Aside0 (∀ W, Below wo.heap.size wo W → W.heap[b4]? = some (.cells #[.int .i64 (sn : Int), .int .i64 y, .int .i64 n] 26 (0, 0))) := ⟨fun W h => blk_below (HK3.out.blk BCr.out HNC.out (by omega) (by omega)) h⟩
            have HCTF : Aside0 (∀ W, Below wo.heap.size wo W → Counts W bm 60 miss) := ⟨fun W h => HCT.out.1.below h⟩
            have HBF : Aside0 (∀ W, Below wo.heap.size wo W → Below w.heap.size w W) := ⟨fun W h => below_step HB.out h⟩
            have HXL2 : Aside0 (xss.length = sn) := ⟨by have := HXL.out; omega⟩
            clear hg5 HBO HCT HB BXr HSr HI BCr
            go_wp2_with fail
            go_loopg [114] al.length (fun gg s114 wr => ∃ i : Nat, s114 = .int .i64 i ∧ i ≤ al.length ∧ al.length - i ≤ gg ∧ Aside0 (Below wo.heap.size wo wr))
            case atStart => exact ⟨0, rfl, by omega, by omega, ⟨Below.refl _ _⟩⟩
            case round =>
              obtain ⟨i, rfl, hia, hig2, HW⟩ := hrel
              by_cases hil : i < al.length
              · obtain ⟨ga, hga, hcell⟩ := (HBOF.out _ HW.out).list.elem i hil
                subst hga
                obtain ⟨hn0, hn20, hnm⟩ := HXM.out (al.getD i 0) (by rw [List.getD_eq_getElem?_getD, List.getElem?_eq_getElem hil]; exact List.getElem_mem _)
                clear hnm
                generalize al.getD i 0 = nn at hn0 hn20 hcell ⊢
                have hwf := wf_small hn0 (show nn ≤ 1000000 by omega)
                have HWF := Aside0.mk hwf
                obtain ⟨row, HROW⟩ : ∃ row, Aside0 (row = xss.getD (nn % (sn : Int)).toNat []) := ⟨_, ⟨rfl⟩⟩
                have hsn4 : sn ≤ 4 := by omega
                have hd0 := blk_cell (HBCF.out _ HW.out) 0
                have hd1 := blk_cell (HBCF.out _ HW.out) 1
                have hd2 := blk_cell (HBCF.out _ HW.out) 2
                replace hd0 : wr.cell? ⟨b4, 0, none⟩ = some (.int .i64 (sn : Int)) := hd0
                replace hd1 : wr.cell? ⟨b4, 1, none⟩ = some (.int .i64 y) := hd1
                replace hd2 : wr.cell? ⟨b4, 2, none⟩ = some (.int .i64 n) := hd2
                clear hwf
                by_cases hfit : (row.length : Int) ≤ y
                · have HFT : Aside0 (persist_Fits.f (sn : Int) y n xss nn = some true) := ⟨by rw [fits_is HCI.out hs1 xss (by rw [HXL2.out]) nn hn0, ← HROW.out, decide_eq_true hfit]⟩
                  have HM1 : Aside0 (miss nn ≤ 1) := ⟨by
                    have hk0 := Int.emod_nonneg nn (show (sn : Int) ≠ 0 by omega)
                    have hk1 := Int.emod_lt_of_pos nn (show (0 : Int) < sn by omega)
                    obtain ⟨M, _, _, h3⟩ := HMI.out.2 (nn % (sn : Int)).toNat (by omega) (by rw [← HROW.out]; exact hfit)
                    exact (h3 nn hn0 (by omega)).2⟩
                  go_wp2_with (first | (go_at_call 16; refine (Fits_sn sn y n (b5 + 1) xss HXL2.out nn true _ (Both.C (HBOF.out _ HW.out) (by rw [HXL2.out]; omega)) HFT.out).mono ?_; rintro e v1 ⟨rfl, hb⟩; have HW1 := Aside0.mk (below_step HW.out hb); have hd0 := (blk_cell (HBCF.out _ HW1.out) 0); have hd1 := (blk_cell (HBCF.out _ HW1.out) 1); have hd2 := (blk_cell (HBCF.out _ HW1.out) 2); replace hd0 : v1.cell? ⟨b4, 0, none⟩ = some (.int .i64 (sn : Int)) := hd0; replace hd1 : v1.cell? ⟨b4, 1, none⟩ = some (.int .i64 y) := hd1; replace hd2 : v1.cell? ⟨b4, 2, none⟩ = some (.int .i64 n) := hd2; obtain ⟨D, hown, hDm, hDat⟩ := HCTF.out v1 HW1.out; have HOWN := Aside0.mk hown; have HDAT := Aside0.mk hDat; clear hb hown hDm hDat) | (at_lookup; (try (refine gate_guard (by rfl) ?_; dsimp only)); refine wpList_lookup_own_int _ rfl _ _ 46 rfl 3 3 .i64 (Maps.int_keyed Try.underlying3) Try.underlying46 Try.underlying3 (zero3 _) bm 60 _ rfl HOWN.out _ _ rfl (Maps.keyOf_int_mk Try.underlying3 HWF.out) ?_; intro cc hat hwc; have hcc : cc = miss nn := lit_inj (hat.symm.trans (HDAT.out nn HWF.out)); have hc1 : cc ≤ 1 := Int.le_trans (Int.le_of_eq hcc) HM1.out; clear hat hwc hcc) | fail)
                  have hnr0 : 0 ≤ nn % (sn : Int) := Int.emod_nonneg _ (by omega)
                  have hnr1 : nn % (sn : Int) < (sn : Int) := Int.emod_lt_of_pos _ (by omega)
                  obtain ⟨Ah, ch, hch, hRh, hfh⟩ := Both.cell (HBOF.out _ HW1.out) (nn % (sn : Int)).toNat (by rw [HXL2.out]; omega)
                  rw [← HROW.out] at hch
                  clear hRh hfh
                  have hsnz : ¬ sn = 0 := by omega
                  have htm : Int.tmod nn (sn : Int) = nn % (sn : Int) := Int.tmod_eq_emod_of_nonneg hn0
                  go_region_held3 (fun w' => w'.cell? ⟨b4, 0, none⟩ = some (.int .i64 (sn : Int)) ∧ w'.cell? ⟨b4, 1, none⟩ = some (.int .i64 y) ∧ w'.cell? ⟨b4, 2, none⟩ = some (.int .i64 n) ∧ w'.cell? ⟨b5 + 1, (nn % (sn : Int)).toNat, none⟩ = some (.slice Ah row.length ch)) (first | exact ⟨hd0, hd1, hd2, hch⟩ | assumption) (first | (go_at_call 16; refine (Fits_sn sn y n (b5 + 1) xss HXL2.out nn true _ (Both.C (HBOF.out _ (below_drew1 HW1.out)) (by rw [HXL2.out]; omega)) HFT.out).mono ?_; rintro e v2 ⟨rfl, hb⟩; have HW2 := Aside0.mk (below_step (below_drew1 HW1.out) hb); have hs : v2.cell? ⟨b4, 0, none⟩ = some (.int .i64 (sn : Int)) ∧ v2.cell? ⟨b4, 1, none⟩ = some (.int .i64 y) ∧ v2.cell? ⟨b4, 2, none⟩ = some (.int .i64 n) ∧ v2.cell? ⟨b5 + 1, (nn % (sn : Int)).toNat, none⟩ = some (.slice Ah row.length ch) := ⟨(blk_cell (HBCF.out _ HW2.out) 0).trans rfl, (blk_cell (HBCF.out _ HW2.out) 1).trans rfl, (blk_cell (HBCF.out _ HW2.out) 2).trans rfl, blk_cellA hb hch⟩; clear hb))
                  clear hsnz htm
                  go_wp2_with fail
                  go_roundg (al.length - (i + 1))
                  case measure => omega
                  case rel => exact ⟨i + 1, by go_num, by omega, by omega, HW2⟩
                · have HFT : Aside0 (persist_Fits.f (sn : Int) y n xss nn = some false) := ⟨by rw [fits_is HCI.out hs1 xss (by rw [HXL2.out]) nn hn0, ← HROW.out, decide_eq_false hfit]⟩
                  go_wp2_with (first | (go_at_call 16; refine (Fits_sn sn y n (b5 + 1) xss HXL2.out nn false _ (Both.C (HBOF.out _ HW.out) (by rw [HXL2.out]; omega)) HFT.out).mono ?_; rintro e v1 ⟨rfl, hb⟩; have HW1 := Aside0.mk (below_step HW.out hb); have hd0 := (blk_cell (HBCF.out _ HW1.out) 0); have hd1 := (blk_cell (HBCF.out _ HW1.out) 1); have hd2 := (blk_cell (HBCF.out _ HW1.out) 2); replace hd0 : v1.cell? ⟨b4, 0, none⟩ = some (.int .i64 (sn : Int)) := hd0; replace hd1 : v1.cell? ⟨b4, 1, none⟩ = some (.int .i64 y) := hd1; replace hd2 : v1.cell? ⟨b4, 2, none⟩ = some (.int .i64 n) := hd2; obtain ⟨D, hown, hDm, hDat⟩ := HCTF.out v1 HW1.out; have HOWN := Aside0.mk hown; have HDAT := Aside0.mk hDat; clear hb hown hDm hDat) | fail)
                  have hnr0 : 0 ≤ nn % (sn : Int) := Int.emod_nonneg _ (by omega)
                  have hnr1 : nn % (sn : Int) < (sn : Int) := Int.emod_lt_of_pos _ (by omega)
                  obtain ⟨Ah, ch, hch, hRh, hfh⟩ := Both.cell (HBOF.out _ HW1.out) (nn % (sn : Int)).toNat (by rw [HXL2.out]; omega)
                  rw [← HROW.out] at hch
                  clear hRh hfh
                  have hsnz : ¬ sn = 0 := by omega
                  have htm : Int.tmod nn (sn : Int) = nn % (sn : Int) := Int.tmod_eq_emod_of_nonneg hn0
                  go_region_held3 (fun w' => w'.cell? ⟨b4, 0, none⟩ = some (.int .i64 (sn : Int)) ∧ w'.cell? ⟨b4, 1, none⟩ = some (.int .i64 y) ∧ w'.cell? ⟨b4, 2, none⟩ = some (.int .i64 n) ∧ w'.cell? ⟨b5 + 1, (nn % (sn : Int)).toNat, none⟩ = some (.slice Ah row.length ch)) (first | exact ⟨hd0, hd1, hd2, hch⟩ | assumption) (first | (go_at_call 16; refine (Fits_sn sn y n (b5 + 1) xss HXL2.out nn false _ (Both.C (HBOF.out _ (below_drew1 HW1.out)) (by rw [HXL2.out]; omega)) HFT.out).mono ?_; rintro e v2 ⟨rfl, hb⟩; have HW2 := Aside0.mk (below_step (below_drew1 HW1.out) hb); have hs : v2.cell? ⟨b4, 0, none⟩ = some (.int .i64 (sn : Int)) ∧ v2.cell? ⟨b4, 1, none⟩ = some (.int .i64 y) ∧ v2.cell? ⟨b4, 2, none⟩ = some (.int .i64 n) ∧ v2.cell? ⟨b5 + 1, (nn % (sn : Int)).toNat, none⟩ = some (.slice Ah row.length ch) := ⟨(blk_cell (HBCF.out _ HW2.out) 0).trans rfl, (blk_cell (HBCF.out _ HW2.out) 1).trans rfl, (blk_cell (HBCF.out _ HW2.out) 2).trans rfl, blk_cellA hb hch⟩; clear hb))
                  clear hsnz htm
                  go_wp2_with fail
                  go_roundg (al.length - (i + 1))
                  case measure => omega
                  case rel => exact ⟨i + 1, by go_num, by omega, by omega, HW2⟩
              · obtain rfl : i = al.length := by omega
                go_wp2_with fail
                refine (timeboundlaw26_awake.calls0 _).mono ?_
                rintro e v9 ⟨rfl, hb⟩
                have HB9 := Aside0.mk (HBF.out _ (below_step HW.out hb))
                clear hb
                go_wp2_with fail
                go_ret
                exact ⟨rfl, HB9.out⟩
end Go.Proofs.Ytcaanbicgpfonaa.PPl
