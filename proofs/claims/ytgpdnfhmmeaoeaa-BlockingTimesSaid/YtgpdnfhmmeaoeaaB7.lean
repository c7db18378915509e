/- The law BlockingGrows: its walk. -/
import Derived.Test.YtgpdnfhmmeaoeaaB4
import Derived.Test.YtgpdnfhmmeaoeaaB6
namespace Go.Proofs.Ytgpdnfhmmeaoeaa.PBt
open Go.RowKit Go.Proofs.YtgpdnfhmmeaoeaaW.PrintWords Go.Proofs.YtgpdnfhmmeaoeaaW.PrintLast Go.Proofs.YtgpdnfhmmeaoeaaW.PrintMore
attribute [local go_sem] max2_int min2_int max_two min_two max_three min_three max_four min_four
set_option linter.unusedVariables false
set_option linter.unusedSimpArgs false

theorem reps_get {α : Type} {R : α → List Value → Prop} {size : Nat} {xs : List α} {cs : List Value} (h : Reps R size xs cs) (z : α) (j : Nat) (hj : j < xs.length) : R (xs.getD j z) ((cs.drop (j * size)).take size) := by
  have := h.2 j (xs.getD j z) (by rw [List.getD_eq_getElem?_getD, List.getElem?_eq_getElem hj]; rfl)
  exact this
theorem cells_one {W : World} : ∀ {xs : List S48} {cs : List Value}, Reps (k48.K W) 7 xs cs → ∀ u ∈ cs, u.oneCell' = true := by
  intro xs cs hr u hu
  obtain ⟨q, hq, rfl⟩ := List.mem_iff_getElem.1 hu
  have hlen : cs.length = xs.length * 7 := hr.1
  have hql : q / 7 < xs.length := by omega
  have hc := hr.2 (q / 7) _ (List.getElem?_eq_getElem hql)
  refine k48.K_one hc _ ?_
  rw [List.mem_iff_getElem?]
  refine ⟨q % 7, ?_⟩
  rw [List.getElem?_take, if_pos (Nat.mod_lt _ (by omega)), List.getElem?_drop, Nat.mul_comm, Nat.div_add_mod, List.getElem?_eq_getElem hq]

/-- The cells of a row of jobs, one of which gets other sections. -/
theorem reps_put {W : World} {x : List S48} {cx : List Value} (hr : Reps (k48.K W) 7 x cx) (k : Nat) (hk : k < x.length) (s : List S50) (A : Option Addr) (c : Nat) (hc : s.length ≤ c) (hs : k50.C W A s.length s) :
    Reps (k48.K W) 7 (x.set k { (x.getD k z48) with f5 := s }) (cx.set (k * 7 + 5) (.slice A s.length c)) := by
  have hl : cx.length = x.length * 7 := hr.1
  refine ⟨by simpa using hl, fun j p hj => ?_⟩
  rw [List.getElem?_set] at hj
  have e1 : ((cx.set (k * 7 + 5) (.slice A s.length c)).drop (j * 7)).take 7 = if k = j then ((cx.drop (k * 7)).take 7).set 5 (.slice A s.length c) else (cx.drop (j * 7)).take 7 := by
    apply List.ext_getElem?
    intro i
    rw [List.getElem?_take, List.getElem?_drop, List.getElem?_set]
    by_cases e : k = j
    · subst e
      rw [if_pos rfl, List.getElem?_set, List.getElem?_take, List.getElem?_drop]
      have hl2 : ((cx.drop (k * 7)).take 7).length = 7 := by rw [List.length_take, List.length_drop]; omega
      by_cases hi : i < 7
      · rw [if_pos hi, if_pos hi]
        by_cases h5 : i = 5
        · subst h5
          rw [if_pos rfl, if_pos (by omega), if_pos rfl, if_pos (by omega)]
        · rw [if_neg (by omega), if_neg (by omega)]
      · rw [if_neg hi, if_neg (by omega), if_neg hi]
    · rw [if_neg e, List.getElem?_take, List.getElem?_drop]
      by_cases hi : i < 7
      · rw [if_pos hi, if_pos hi, if_neg (by omega)]
      · rw [if_neg hi, if_neg hi]
  rw [e1]
  by_cases e : k = j
  · subst e
    rw [if_pos rfl, if_pos hk] at hj
    injection hj with hj
    subst hj
    rw [if_pos rfl]
    obtain ⟨A5, c5, h5, _, _⟩ := k48_open (reps_get hr z48 k hk)
    rw [h5]
    exact k48_mk W _ hc hs
  · rw [if_neg e] at hj
    rw [if_neg e]
    exact hr.2 j p hj
def moreJob (x : List S48) (k : Nat) (s : List S50) : List S48 := x.set k { (x.getD k z48) with f5 := s }
theorem More_set (x : List S48) (k : Nat) (h : S50) : More x (moreJob x k ((rd_T48 x k).f5 ++ [h])) := by
  refine ⟨by simp [moreJob], fun j => ?_⟩
  have e : rd_T48 (moreJob x k ((rd_T48 x k).f5 ++ [h])) j = if k = j ∧ k < x.length then { (x.getD k z48) with f5 := (rd_T48 x k).f5 ++ [h] } else rd_T48 x j := by
    unfold rd_T48 moreJob
    simp only [Int.toNat_natCast, List.getD_eq_getElem?_getD, List.getElem?_set]
    by_cases e : k = j
    · subst e
      rw [if_pos rfl]
      by_cases hk : k < x.length
      · rw [if_pos hk, if_pos ⟨rfl, hk⟩]; rfl
      · rw [if_neg hk, if_neg (fun h => hk h.2), List.getElem?_eq_none (by omega)]
    · rw [if_neg e, if_neg (fun h => e h.1)]
  rw [e]
  split
  · rename_i hk
    obtain ⟨rfl, _⟩ := hk
    have e2 : x.getD k z48 = rd_T48 x k := by unfold rd_T48; rw [Int.toNat_natCast]
    rw [e2]
    exact ⟨rfl, [h], rfl⟩
  · exact ⟨rfl, [], by simp⟩

theorem few_at {x : List S48} {m : Nat} (h : ∀ y ∈ x, y.f5.length ≤ m) (j : Int) : (rd_T48 x j).f5.length ≤ m := by
  unfold rd_T48
  rw [List.getD_eq_getElem?_getD]
  cases hg : x[j.toNat]? with
  | none => exact Nat.zero_le _
  | some y => exact h y (List.mem_of_getElem? hg)
theorem few_more {x : List S48} {m : Nat} (h : ∀ y ∈ x, y.f5.length ≤ m) (k : Nat) (s : List S50) (hs : s.length ≤ m) : ∀ y ∈ moreJob x k s, y.f5.length ≤ m := by
  intro y hy
  rcases List.mem_or_eq_of_mem_set hy with hy | rfl
  · exact h y hy
  · exact hs

set_option maxHeartbeats 4000000 in
set_option maxRecDepth 100000 in
theorem grows_walk (A0 : Option Addr) (c0 : Nat) (l0 : List Int) (w : World) (hr0 : Kd.C (Kd.int .i64) w A0 l0.length l0) (hc0 : l0.length ≤ c0)
    (r0 p0 : Int) (e1 : timeboundmake_Deck_Next.f l0 0 4 = some (r0, p0)) (hb0 : 0 ≤ r0 ∧ r0 ≤ 3) (kj : Nat) (x : List S48) (p1 : Int) (e2 : timeboundmake2_Jobs.f kj l0 p0 (1 + r0) = some (x, p1)) (hxl : (x.length : Int) = 1 + r0) (hfew : FewHolds x)
    (kk : Nat) (p2 : Int) (e3 : timeboundmake_Deck_Next.f l0 p1 (x.length : Int) = some ((kk : Int), p2)) (hkk : kk < x.length) (r p3 : Int) (e4 : timeboundmake_Deck_Next.f l0 p2 3 = some (r, p3)) (c p4 : Int) (e5 : timeboundmake_Deck_Next.f l0 p3 40 = some (c, p4)) :
    Calls Try.prog 6 #[.slice A0 l0.length c0] w fun e w' => e = .returned (.bool true) ∧ Below w.heap.size w w' := by
  have hu48 := Try.underlying48
  have hu50 := Try.underlying50
  have HR0 := Aside0.mk hr0
  have E1 := Aside0.mk e1
  have E2 := Aside0.mk e2
  have E3 := Aside0.mk e3
  have E4 := Aside0.mk e4
  have E5 := Aside0.mk e5
  have HXL := Aside0.mk hxl
  have HFW := Aside0.mk hfew
  obtain ⟨hb0a, hb0b⟩ := hb0
  clear hr0 e1 e2 e3 e4 e5 hxl hfew
  go_enter Try.func6, Try.ntmps6
  go_wp2_with fail
  refine (timeboundmake_New.calls A0 c0 l0 l0 0 w w (Below.refl _ _) HR0.out hc0 rfl).mono ?_
  rintro e w1 ⟨g, rfl, hI, hb, _⟩
  have HI := Aside0.mk hI
  have HB := Aside0.mk hb
  clear hI hb
  go_wp2_with fail
  refine (timeboundmake_Deck_Next.calls g l0 0 4 r0 p0 w w1 HI.out HB.out E1.out).mono ?_
  rintro e w2 ⟨rfl, hI, hb, _⟩
  replace HI := Aside0.mk hI
  replace HB := Aside0.mk hb
  clear hI hb E1
  go_wp2_with fail
  refine (timeboundmake2_Jobs.calls kj g l0 p0 (1 + r0) x p1 w w2 HI.out HB.out E2.out).mono ?_
  rintro e w3 ⟨v0, rfl, hS, hI, hb, _⟩
  have hS2 := Kd.S_old (hI.apartS hS (by decide)) (Below.refl _ _)
  have hx0 : 0 < x.length := by omega
  obtain ⟨gx, capx, rfl, hgx1, hgx2, curx, hgx⟩ := Kd.S_form hS hx0
  have hgI : g < w3.heap.size := hI.lt
  have hgne : gx ≠ g := by obtain ⟨A_, c_, h_, _⟩ := hI; intro e; subst e; rw [hgx] at h_; injection h_ with h_; injection h_ with _ h_; cases h_
  have HS := Aside0.mk hS2
  have HGX := Aside0.mk hgx
  have CX := Aside0.mk (Kd.S_reads' hS).2.2
  have hcapx : x.length ≤ capx := (Kd.S_reads' hS).2.1
  replace HI := Aside0.mk hI
  replace HB := Aside0.mk hb
  have hw3 : w.heap.size ≤ w3.heap.size := HB.out.size
  clear hI hb E2 hS hS2 hgx
  obtain ⟨cx, hrx, hcx⟩ := ReadsRow.inner_ CX.out
  have RX := Aside0.mk hrx
  have hcxl : cx.length = x.length * 7 := hrx.1
  have hcx1 := cells_one hrx
  have HCX := Aside0.mk hcx
  have CC : Aside0 (∀ j, j < cx.length → curx[j]? = cx[j]?) := ⟨fun j hj => by
    have h1 := hcx j _ (List.getElem?_eq_getElem hj)
    rw [add_plain, blk_cell HGX.out] at h1
    rw [h1, List.getElem?_eq_getElem hj]⟩
  have HCX1 := Aside0.mk hcx1
  clear hrx hcx hcx1
  obtain ⟨i48, hi48, hz48⟩ := Option.map_eq_some_iff.1 info48
  simp only [Prod.mk.injEq] at hz48
  obtain ⟨hza, hzb, hzc⟩ := hz48
  have HI48 := Aside0.mk hi48
  have HZA := Aside0.mk hza
  have HZB := Aside0.mk hzb
  have HZC := Aside0.mk hzc
  clear hi48 hza hzb hzc
  have hxs : x.length ≤ 4 := by have := HXL.out; omega
  go_wp2_with (first | (at_builtin; refine wpList_append_own_at _ rfl _ _ 35 rfl w.heap.size 48 i48 _ 7 72 Try.underlying35 HI48.out HZA.out HZB.out HZC.out rfl (by decide) (.slice none 0 0) 0 [] rfl ⟨rfl, .inl ⟨rfl, rfl⟩⟩ ⟨gx, 0, none⟩ x.length capx cx rfl hcxl HCX.out HCX1.out (by unfold maxLen; omega) (by omega) hw3 ?_; intro vy w4 hy hgrow hnil hat; simp only [Nat.zero_add, List.nil_append] at hy; obtain ⟨gy, capy, rfl, hgy1, hgy2⟩ := hy.form (by omega); have HY := Aside0.mk hy; have HG := Aside0.mk hgrow; have HT := Aside0.mk hat; clear hy hgrow hnil hat) | fail)
  have hgyx : gy = w3.heap.size := by
    rcases HT.out with h | h
    · simp [Value.ownBlock] at h
    · simpa [Value.ownBlock] using h
  replace HS := Aside0.mk (Kd.S_grown HS.out HG.out (fun k _ => by simp [Value.ownBlock]))
  replace HGX := Aside0.mk (blk_grown HGX.out HG.out (by simp [Value.ownBlock]))
  replace HI := Aside0.mk (HI.out.grown HG.out (by simp [Value.ownBlock]))
  replace HB := Aside0.mk (pw_below_grown HB.out none hw3 HG.out (by intro k h; cases h))
  have hgya : w3.heap.size ≤ gy := by omega
  have hgyb : gy < w3.heap.size + 1 := by omega
  have hgyg : gy ≠ g := by omega
  have hgyx2 : gx ≠ gy := by omega
  have hlt3 : ∀ k, k < w3.heap.size → k ≠ gy := fun k hk => by omega
  have HLT3 := Aside0.mk hlt3
  clear hlt3 HG HT CX hgyx
  refine (timeboundmake_Deck_Next.calls g l0 p1 (x.length : Int) kk p2 w w4 HI.out HB.out E3.out).mono ?_
  rintro e w5 ⟨rfl, hI, hb, hk⟩
  replace HS := Aside0.mk (Kd.S_keep HS.out hk (fun k h => h.1.2))
  replace HGX := Aside0.mk (hk.blk HGX.out hgne (by simp))
  replace HY := Aside0.mk (hk.own HY.out (by simp [Value.ownBlock]; omega) (.inr (by simp [Value.ownBlock])))
  replace HI := Aside0.mk hI
  replace HB := Aside0.mk hb
  have hw5 : w3.heap.size < w5.heap.size := by have := hk.1; omega
  clear hI hb hk E3
  obtain ⟨A5, c5, hx5, hl5, hg5, hcx5⟩ : ∃ A5 c5, w5.cell? ⟨gy, kk * 7 + 5, none⟩ = some (.slice A5 (rd_T48 x kk).f5.length c5) ∧ (rd_T48 x kk).f5.length ≤ c5 ∧ k50.C w5 A5 (rd_T48 x kk).f5.length (rd_T48 x kk).f5 ∧ cx[kk * 7 + 5]? = some (.slice A5 (rd_T48 x kk).f5.length c5) := by
    obtain ⟨ad, A5, c5, hA, _, _, _, _, _, h5, _, hl5, hg5⟩ := at_T48 (Kd.S_reads' HS.out).2.2 (kk : Int) (by omega) (by omega)
    injection hA with hA
    subst hA
    have e1 : cx[kk * 7 + 5]? = some (.slice A5 (rd_T48 x kk).f5.length c5) := by
      rw [← CC.out _ (by omega)]
      rw [add_plain, Int.toNat_natCast] at h5
      have h6 := blk_cell HGX.out (kk * 7 + 5)
      rw [← h6]
      exact h5
    have h7 := HY.out.cells (g := gy) rfl (kk * 7 + 5) _ e1
    rw [add_plain] at h7
    exact ⟨A5, c5, h7, hl5, hg5, e1⟩
  have hfk : (rd_T48 x kk).f5.length ≤ 2 := HFW.out _ (by
    unfold rd_T48
    rw [Int.toNat_natCast, List.getD_eq_getElem?_getD, List.getElem?_eq_getElem hkk]
    exact List.getElem_mem _)
  have HG5 := Aside0.mk hg5
  have HL5 := Aside0.mk hl5
  have HX5 := Aside0.mk hcx5
  obtain ⟨ys, hys⟩ : ∃ ys, ys = (rd_T48 x kk).f5 := ⟨_, rfl⟩
  rw [← hys] at HG5 HL5 HX5 hx5 hfk
  have HYS := Aside0.mk hys
  clear hg5 hl5 hcx5 hys
  have hgI5 : g < w5.heap.size := by omega
  have hgy5 : gy < w5.heap.size := by omega
  have okf : Aside0 (∀ k, w5.heap.size ≤ k → k ≠ g ∧ k ≠ gy ∧ ¬ k < w5.heap.size) := ⟨fun k hk => ⟨by omega, by omega, by omega⟩⟩
  go_wp2_with (first | (at_builtin; refine Kd.R_append_rows (w0 := w) k50 (Rr := k50.K w5) w.heap.size rfl _ _ 46 50 _ 16 rfl Try.underlying46 info50 rfl (by decide) (by decide) (.slice none 0 0) [] ys A5 ys.length c5 (fun k => k ≠ g ∧ k ≠ gy ∧ ¬ k < w5.heap.size) (fun _ => False) rfl rfl (Kd.R_nil _ _ _ _ _) HG5.out ?_ ?_ okf.out HB.out HB.out.size ?_ ?_; (intro z cs hz; obtain rfl := k50_open hz; exact k50_mkM _ _ _ z); (intro k hk; exact hk.elim); (show (0 + _) * 16 ≤ _; omega); intro v1 w6 hv1 hb6 hgr6 hat6; rw [List.nil_append] at hv1; have HV1 := Aside0.mk hv1; have HB6 := Aside0.mk hb6; have HG6 := Aside0.mk hgr6; clear hv1 hb6 hgr6 hat6) | fail)
  replace HS := Aside0.mk (Kd.S_grown HS.out HG6.out (fun k _ => by simp [Value.ownBlock]))
  replace HGX := Aside0.mk (blk_grown HGX.out HG6.out (by simp [Value.ownBlock]))
  replace HY := Aside0.mk (own_other HY.out HG6.out (.inr (by simp [Value.ownBlock])))
  replace HI := Aside0.mk (HI.out.grown HG6.out (by simp [Value.ownBlock]))
  have hs6 : w5.heap.size ≤ w6.heap.size := HG6.out.size
  clear HB HG6 HG5 HL5 hx5
  refine (timeboundmake_Deck_Next.calls g l0 p2 3 r p3 w w6 HI.out HB6.out E4.out).mono ?_
  rintro e w7 ⟨rfl, hI, hb, hk⟩
  replace HS := Aside0.mk (Kd.S_keep HS.out hk (fun k h => h.1.2))
  replace HGX := Aside0.mk (hk.blk HGX.out hgne (by simp))
  replace HY := Aside0.mk (hk.own HY.out (by simp [Value.ownBlock]; omega) (.inr (by simp [Value.ownBlock])))
  replace HV1 := Aside0.mk (Kd.R_keep HV1.out hk (fun k h => h.1))
  replace HI := Aside0.mk hI
  have HB7 := Aside0.mk hb
  have hs7 : w6.heap.size ≤ w7.heap.size := hk.1
  clear hI hb hk E4 HB6
  go_wp2_with fail
  refine (timeboundmake_Deck_Next.calls g l0 p3 40 c p4 w w7 HI.out HB7.out E5.out).mono ?_
  rintro e w8 ⟨rfl, hI, hb, hk⟩
  replace HS := Aside0.mk (Kd.S_keep HS.out hk (fun k h => h.1.2))
  replace HGX := Aside0.mk (hk.blk HGX.out hgne (by simp))
  replace HY := Aside0.mk (hk.own HY.out (by simp [Value.ownBlock]; omega) (.inr (by simp [Value.ownBlock])))
  replace HV1 := Aside0.mk (Kd.R_keep HV1.out hk (fun k h => h.1))
  replace HI := Aside0.mk hI
  have HB8 := Aside0.mk hb
  have hs8 : w7.heap.size ≤ w8.heap.size := hk.1
  clear hI hb hk E5 HB7
  have HS9 := Aside0.mk (Kd.S_alloc HS.out (.cells #[.int .i64 r, .int .i64 c] 50))
  have HGX9 := Aside0.mk (blk_alloc HGX.out (.cells #[.int .i64 r, .int .i64 c] 50))
  have HY9 := Aside0.mk (pw_own_below HY.out (below_alloc (Below.refl w8.heap.size w8) (.cells #[.int .i64 r, .int .i64 c] 50)))
  have HV9 := Aside0.mk (Kd.R_alloc HV1.out (.cells #[.int .i64 r, .int .i64 c] 50))
  have HI9 := Aside0.mk (HI.out.alloc (.cells #[.int .i64 r, .int .i64 c] 50))
  have HB9 := Aside0.mk (below_alloc HB8.out (.cells #[.int .i64 r, .int .i64 c] 50))
  have HLIT := Aside0.mk (heap_alloc_new w8 (.cells #[.int .i64 r, .int .i64 c] 50))
  have HCL : Aside0 (k50.C (w8.alloc (.cells #[.int .i64 r, .int .i64 c] 50)) (some ⟨w8.heap.size, 0, none⟩) 1 [⟨r, c⟩]) := ⟨C_block (cs := [_, _]) HLIT.out ((Reps.none _ 2).snoc (k50_mk _ ⟨r, c⟩) rfl) (by decide) (by simp)⟩
  have okf9 : Aside0 (∀ k, (w8.alloc (.cells #[.int .i64 r, .int .i64 c] 50)).heap.size ≤ k → k ≠ g ∧ k ≠ gy ∧ ¬ k < w5.heap.size) := ⟨fun k hk => by
    have : (w8.alloc (.cells #[.int .i64 r, .int .i64 c] 50)).heap.size = w8.heap.size + 1 := by simp
    exact ⟨by omega, by omega, by omega⟩⟩
  clear HS HGX HY HV1 HI HB8 HLIT okf
  go_wp2_with (first | (at_builtin; refine Kd.R_append_rows (w0 := w) k50 (Rr := k50.K (w8.alloc (.cells #[.int .i64 r, .int .i64 c] 50))) w.heap.size rfl _ _ 46 50 _ 16 rfl Try.underlying46 info50 rfl (by decide) (by decide) v1 ys [⟨r, c⟩] (some ⟨w8.heap.size, 0, none⟩) 1 1 (fun k => k ≠ g ∧ k ≠ gy ∧ ¬ k < w5.heap.size) (fun _ => False) rfl rfl HV9.out HCL.out ?_ ?_ okf9.out HB9.out HB9.out.size ?_ ?_; (intro z cs hz; obtain rfl := k50_open hz; exact k50_mkM _ _ _ z); (intro k hk; exact hk.elim); (show (_ + 1) * 16 ≤ _; omega); intro v2 w10 hv2 hb10 hgr10 hat10; obtain ⟨A2, c2, rfl⟩ := Kd.R_slice hv2; have HV2 := Aside0.mk hv2; have HB10 := Aside0.mk hb10; have hnv := Aside0.mk (fun k (h : v1.ownBlock = some k) => HV9.out.1 k h); have HS10 := Aside0.mk (Kd.S_grown HS9.out hgr10 (fun k hk e => (hnv.out k e.symm).2.2 (by have := hk.2; omega))); have HGX10 := Aside0.mk (blk_grown HGX9.out hgr10 (fun e => (hnv.out gx e.symm).2.2 (by omega))); have HY10 := Aside0.mk (own_other HY9.out hgr10 (.inr (fun e => (hnv.out gy (by rw [← e]; rfl)).2.1 rfl))); have HI10 := Aside0.mk (HI9.out.grown hgr10 (fun e => (hnv.out g e.symm).1 rfl)); clear hv2 hb10 hgr10 hat10; (have hcl10 : w10.cell? ⟨gy, kk * 7 + 5, none⟩ = some (.slice A5 ys.length c5) := by (have h7 := HY10.out.cells (g := gy) rfl (kk * 7 + 5) _ HX5.out); rwa [add_plain] at h7); (have hfr10 : w10.frozen? ⟨gy, kk * 7 + 5, none⟩ = false := by (obtain ⟨cb, hcb⟩ := own_typed HY10.out gy rfl); exact blk_frozen hcb _)) | fail)
  have hlz : (ys ++ [(⟨r, c⟩ : S50)]).length = ys.length + 1 := by simp
  have hgyw : w.heap.size ≤ gy := by omega
  have HSf := Aside0.mk (Kd.S_far (p := ⟨gy, kk * 7 + 5, none⟩) HS10.out (fun k hk => HLT3.out k hk.2) (.slice A2 (ys.length + 1) c2))
  have HGXf := Aside0.mk (blk_far HGX10.out (p := ⟨gy, kk * 7 + 5, none⟩) hgyx2 (.slice A2 (ys.length + 1) c2))
  have HYf := Aside0.mk (HY10.out.stored (kk * 7 + 5) (.slice A2 (ys.length + 1) c2)).1
  have HVf := Aside0.mk (Kd.R_far (p := ⟨gy, kk * 7 + 5, none⟩) HV2.out (fun k hk => hk.2.1) (.slice A2 (ys.length + 1) c2))
  have HBf := Aside0.mk (below_set (j := kk * 7 + 5) (v := .slice A2 (ys.length + 1) c2) HB10.out hgyw)
  generalize w10.setCell ⟨gy, kk * 7 + 5, none⟩ (.slice A2 (ys.length + 1) c2) = wf at HSf HGXf HYf HVf HBf ⊢
  have CX := Aside0.mk (Kd.S_reads' HSf.out).2.2
  obtain ⟨y, hy⟩ : ∃ y, y = moreJob x kk (ys ++ [⟨r, c⟩]) := ⟨_, rfl⟩
  have HYL := Aside0.mk (show y.length = x.length by rw [hy]; simp [moreJob])
  have CY : Aside0 (Kd.C k48 wf (some ⟨gy, 0, none⟩) x.length y) := ⟨by
    obtain ⟨cx', hr', hc'⟩ := ReadsRow.inner_ CX.out
    have hl' : cx'.length = x.length * 7 := hr'.1
    have ecx : cx' = cx := by
      apply List.ext_getElem?
      intro j
      by_cases hj : j < cx.length
      · have h1 := hc' j _ (List.getElem?_eq_getElem (by omega))
        rw [add_plain, blk_cell HGXf.out, CC.out j hj] at h1
        rw [h1, List.getElem?_eq_getElem (by omega)]
      · rw [List.getElem?_eq_none (by omega), List.getElem?_eq_none (by omega)]
    subst ecx
    have hv := HVf.out
    obtain ⟨hv1, hv2, hv3⟩ := Kd.R_reads' hv
    have hr2 := reps_put hr' kk hkk (ys ++ [⟨r, c⟩]) A2 c2 (by rw [← hv1]; exact hv2) (by rw [← hv1]; exact hv1 ▸ hv3)
    rw [hlz] at hr2
    obtain ⟨A', c', hA, hC⟩ := own_reads_row HYf.out hr2 (by simp)
    injection hA with hA1 hA2 hA3
    rw [← hA1] at hC
    rw [hy]
    exact hC⟩
  have HM := Aside0.mk (show More x y by rw [hy, HYS.out]; exact More_set x kk ⟨r, c⟩)
  have HFY : Aside0 (∀ j : Nat, (rd_T48 y j).f5.length ≤ 1000) := ⟨fun j => by
    rw [hy]
    exact few_at (few_more (fun z hz => Nat.le_trans (HFW.out z hz) (by omega)) kk _ (by rw [hlz]; omega)) j⟩
  have HFX : Aside0 (∀ j : Nat, (rd_T48 x j).f5.length ≤ 1000) := ⟨fun j => few_at (fun z hz => Nat.le_trans (HFW.out z hz) (by omega)) j⟩
  have hcapy : x.length ≤ capy := by
    rcases HYf.out.2 with ⟨h, _⟩ | ⟨g', cap', cur, hv, _, _, hnc, _⟩
    · cases h
    · injection hv with _ _ h3
      omega
  clear hy HS10 HGX10 HY10 HI10 HV2 HB10 hnv hcl10 hfr10 HS9 HGX9 HY9 HV9 HI9 HB9 HCL okf9 HSf HGXf HYf HVf HX5 HYS RX CC HCX HCX1 HXL HFW HLT3 hlz
  go_loopg [44] x.length (fun gg s44 wr => ∃ i : Nat, i ≤ x.length ∧ x.length - i ≤ gg ∧ s44 = .int .i64 i ∧ Aside0 (Below wf.heap.size wf wr))
  case atStart => exact ⟨0, Nat.zero_le _, by omega, rfl, ⟨Below.refl _ _⟩⟩
  case round =>
    obtain ⟨i, hi, hgg, rfl, BW⟩ := hrel
    by_cases hlt : i < x.length
    · have hltz : (i : Int) < (x.length : Int) := by omega
      obtain ⟨ka, hka⟩ := Blocking_is x i 9 (by omega) HFX.out
      obtain ⟨kb, hkb⟩ := Blocking_is y i 9 (by have := HYL.out; omega) HFY.out
      obtain ⟨kc, hkc⟩ := Blocking_is x i 20 (by omega) HFX.out
      obtain ⟨g1, g2, g3⟩ := grows HM.out i (by omega)
      generalize blockP x i 9 = a at hka g1 g2 g3
      generalize blockP y i 9 = b at hkb g1 g2
      generalize blockP x i 20 = a20 at hkc g3
      have HKA := Aside0.mk hka
      have HKB := Aside0.mk hkb
      have HKC := Aside0.mk hkc
      have G2 := Aside0.mk g2
      clear hka hkb hkc g2
      go_wp2_with fail
      refine (blocking_Blocking.calls ka _ _ x i 9 a wr (Kd.C_below CX.out BW.out) hcapx HKA.out).mono ?_
      rintro e wa ⟨rfl, hb⟩
      have BA := Aside0.mk (below_step BW.out hb)
      clear hb
      go_wp2_with fail
      have hcb := Aside0.mk (blocking_Blocking.calls kb (some ⟨gy, 0, none⟩) capy y i 9 b wa (by rw [HYL.out]; exact Kd.C_below CY.out BA.out) (by have := HYL.out; omega) HKB.out)
      rw [HYL.out] at hcb
      refine (hcb.out).mono ?_
      rintro e wb ⟨rfl, hb⟩
      have BB := Aside0.mk (below_step BA.out hb)
      clear hb hcb BA
      go_wp2_with fail
      go_loopg [10, 55] x.length (fun gg s10 s55 wr2 => ∃ j : Nat, j ≤ x.length ∧ x.length - j ≤ gg ∧ s55 = .int .i64 j ∧ s10 = .bool (lastP x i j) ∧ Aside0 (Below wf.heap.size wf wr2))
      case atStart => exact ⟨0, Nat.zero_le _, by omega, rfl, rfl, BB⟩
      case round =>
        clear BB
        obtain ⟨j, hj, hgg2, rfl, rfl, BB⟩ := hrel
        by_cases hlt2 : j < x.length
        · have hltz2 : (j : Int) < (x.length : Int) := by omega
          have HLS := Aside0.mk (show lastP x i (j + 1) = (lastP x i j && !beforeP x i j) from rfl)
          generalize lastP x i j = la at HLS
          cases la with
          | false =>
            go_wp2_with fail
            go_roundg (x.length - (j + 1))
            case measure => omega
            case rel => exact ⟨j + 1, by omega, by omega, by go_num, by rw [HLS.out]; rfl, BB⟩
          | true =>
            go_wp2_with fail
            refine (blocking_Before.calls _ _ x i j (beforeP x i j) _ (Kd.C_below CX.out BB.out) hcapx (before_is x i j (by omega))).mono ?_
            rintro e w' ⟨rfl, hd⟩
            have BD := Aside0.mk (below_step BB.out hd.below)
            clear hd
            generalize beforeP x i j = bf at HLS ⊢
            go_wp2_with fail
            go_roundg (x.length - (j + 1))
            case measure => omega
            case rel => exact ⟨j + 1, by omega, by omega, by go_num, by rw [HLS.out]; cases bf <;> rfl, BD⟩
        · have : j = x.length := by omega
          subst this
          have hltz2 : ¬ (x.length : Int) < (x.length : Int) := by omega
          generalize lastP x i x.length = la at G2
          have hab : decide (b < a) = false := decide_eq_false (by omega)
          have hac : decide (a20 < a) = false := decide_eq_false (by omega)
          by_cases ha : a = 0
          · subst ha
            by_cases hbz : b = 0
            · subst hbz
              obtain rfl : la = true := G2.out
              go_wp2_with fail
              refine (blocking_Blocking.calls kc _ _ x i 20 a20 _ (Kd.C_below CX.out BB.out) hcapx HKC.out).mono ?_
              rintro e wz ⟨rfl, hb⟩
              have BZ := Aside0.mk (below_step BB.out hb)
              clear hb
              go_wp2_with fail
              go_roundg (x.length - (i + 1))
              case measure => omega
              case rel => exact ⟨i + 1, by omega, by omega, by go_num, BZ⟩
            · have hbz1 : (b == 0) = false := beq_eq_false_iff_ne.mpr hbz
              obtain rfl : la = false := by rw [G2.out, hbz1]; rfl
              clear hbz
              go_wp2_with fail
              refine (blocking_Blocking.calls kc _ _ x i 20 a20 _ (Kd.C_below CX.out BB.out) hcapx HKC.out).mono ?_
              rintro e wz ⟨rfl, hb⟩
              have BZ := Aside0.mk (below_step BB.out hb)
              clear hb
              go_wp2_with fail
              go_roundg (x.length - (i + 1))
              case measure => omega
              case rel => exact ⟨i + 1, by omega, by omega, by go_num, BZ⟩
          · have haz1 : (a == 0) = false := beq_eq_false_iff_ne.mpr ha
            obtain rfl : la = false := by rw [G2.out, haz1]; rfl
            clear ha
            go_wp2_with fail
            refine (blocking_Blocking.calls kc _ _ x i 20 a20 _ (Kd.C_below CX.out BB.out) hcapx HKC.out).mono ?_
            rintro e wz ⟨rfl, hb⟩
            have BZ := Aside0.mk (below_step BB.out hb)
            clear hb
            go_wp2_with fail
            go_roundg (x.length - (i + 1))
            case measure => omega
            case rel => exact ⟨i + 1, by omega, by omega, by go_num, BZ⟩
    · have : i = x.length := by omega
      subst this
      have hltz : ¬ (x.length : Int) < (x.length : Int) := by omega
      go_wp2_with fail
      refine (timeboundlaw40_awake.calls0 wr).mono ?_
      rintro e wz ⟨rfl, hb⟩
      have BZ := Aside0.mk (below_step (below_step HBf.out BW.out) hb)
      clear hb
      go_wp2_with fail
      go_ret
      exact ⟨rfl, BZ.out⟩

def timeboundlaw40_BlockingGrows.f (l0 : List Int) : Option Bool := some true
def timeboundlaw40_BlockingGrows.Pure : Prop := ∀ (l0 : List Int), l0.length ≤ maxLen → l0.length * 8 ≤ 140737488351232 → timeboundlaw40_BlockingGrows.f l0 = some true
theorem timeboundlaw40_BlockingGrows.walk (P : timeboundlaw40_BlockingGrows.Pure) (a0 : Option Addr) (len0 cap0 : Nat) (z0 : List Int) (w : World) (w0 : (a0 = none ∧ len0 = 0 ∧ cap0 = 0 ∧ z0 = []) ∨ ∃ x, a0 = some x ∧ len0 ≤ cap0 ∧ cap0 ≤ maxLen ∧ z0.length = cap0 ∧ (∀ i, i < z0.length → w.cell? (x.add i) = some (.int .i64 (z0.getD i 0))) ∧ ∀ n ∈ z0, (Lit.int .i64 n).wf = true) (y0 : len0 * 8 ≤ 140737488351232) :
    Calls Try.prog 6 #[.slice a0 len0 cap0] w fun e w' => e = .returned (.bool true) ∧ Below w.heap.size w w' := by
  obtain ⟨l0, rfl, hr0, hm0, hw0, hc0⟩ := ReadsInt.ofRowC w0
  have h0 : InDeck l0 0 := ⟨by omega, by omega, by omega⟩
  obtain ⟨r0, p0, e1, a1, b1, h1⟩ := next_ok l0 0 4 h0 (by omega)
  obtain ⟨n, hn⟩ := Int.eq_ofNat_of_zero_le (show 0 ≤ 1 + r0 by omega)
  obtain ⟨kj, x, p1, e2, hx, hf, h2⟩ := jobs_made l0 n (by omega) p0 h1
  obtain ⟨kk, p2, e3, a3, b3, h3⟩ := next_ok l0 p1 (x.length : Int) h2 (by omega)
  obtain ⟨r, p3, e4, _, _, h4⟩ := next_ok l0 p2 3 h3 (by omega)
  obtain ⟨c, p4, e5, _, _, _⟩ := next_ok l0 p3 40 h4 (by omega)
  obtain ⟨kk, rfl⟩ := Int.eq_ofNat_of_zero_le a3
  exact grows_walk _ _ l0 w (Kd.C_of_reads (d := (0 : Int)) (h1 := fun _ => rfl) hr0) hc0 r0 p0 e1 (by omega) kj x p1 (by rw [hn]; exact e2) (by omega) hf kk p2 e3 (by omega) r p3 e4 c p4 e5
end Go.Proofs.Ytgpdnfhmmeaoeaa.PBt
