/- For every list of numbers: what evict.Common and the reference's Common say of the lines made out of it is the same. No condition. -/
import Derived.Test.YtgpdnfhmmeaoeaaPEvx9
namespace Go.Proofs.Ytgpdnfhmmeaoeaa.Pure
open Go.RowKit Go.Proofs.Ytgpdnfhmmeaoeaa.PEv Go.Proofs.YtgpdnfhmmeaoeaaW.PrintWords Go.Proofs.YtgpdnfhmmeaoeaaW.PrintLast

/-! ### a deck -/
def InDeck (L : List Int) (p : Int) : Prop := 0 ≤ p ∧ p ≤ (L.length : Int) ∧ (L.length : Int) ≤ 20000000000000
theorem mod_ok (a n : Int) (h1 : 1 ≤ n) (h2 : n ≤ 1000000000) : ∃ r, timeboundmake_Mod.f a n = some r ∧ 0 ≤ r ∧ r < n := by
  unfold timeboundmake_Mod.f
  rw [if_neg (by omega)]
  have e1 : Int.tmod a n < n := Int.tmod_lt_of_pos a (by omega)
  have e2 : -n < Int.tmod a n := by
    have := Int.tmod_lt_of_pos (-a) (show (0 : Int) < n by omega)
    rw [Int.neg_tmod] at this
    omega
  refine ⟨_, rfl, ?_⟩
  rw [show wrap64 (Int.tmod a n + n) = Int.tmod a n + n by unfold wrap64; omega]
  exact ⟨Int.tmod_nonneg _ (by omega), Int.tmod_lt_of_pos _ (by omega)⟩
theorem next_ok (L : List Int) (p n : Int) (h : InDeck L p) (hn : n ≤ 1000000000) : ∃ r q, timeboundmake_Deck_Next.f L p n = some (r, q) ∧ 0 ≤ r ∧ (r < n ∨ r = 0) ∧ InDeck L q := by
  obtain ⟨h0, h1, h2⟩ := h
  unfold timeboundmake_Deck_Next.f
  by_cases c1 : p ≥ (L.length : Int)
  · rw [if_pos c1]; exact ⟨0, p, rfl, by omega, .inr rfl, h0, h1, h2⟩
  · rw [if_neg c1]
    by_cases c2 : n ≤ 1
    · rw [if_pos c2]; exact ⟨0, p, rfl, by omega, .inr rfl, h0, h1, h2⟩
    · rw [if_neg c2]
      have e1 : wrap64 (p + 1) = p + 1 := by unfold wrap64; omega
      have e2 : wrap64 (p + 1 - 1) = p := by unfold wrap64; omega
      rw [e1, e2, if_pos h0, if_pos (by omega)]
      obtain ⟨r, hr, r0, r1⟩ := mod_ok (rd L p) n (by omega) hn
      rw [hr]
      exact ⟨r, p + 1, rfl, r0, .inl r1, by omega, by omega, h2⟩
theorem cache_ok (L : List Int) (p : Int) (h : InDeck L p) : ∃ a b c q, timeboundmake2_Cache.f L p = some (a, b, c, q) ∧ 0 ≤ a ∧ a ≤ 4 ∧ 1 ≤ b ∧ b ≤ 3 ∧ 1 ≤ c ∧ c ≤ 4 ∧ InDeck L q := by
  obtain ⟨a, p1, e1, a0, a1, h1⟩ := next_ok L p 5 h (by omega)
  obtain ⟨b, p2, e2, b0, b1, h2⟩ := next_ok L p1 3 h1 (by omega)
  obtain ⟨c, p3, e3, c0, c1, h3⟩ := next_ok L p2 4 h2 (by omega)
  unfold timeboundmake2_Cache.f timeboundmake_Cache.f
  rw [e1]; simp only [Option.bind_some]
  rw [e2]; simp only [Option.bind_some]
  rw [e3]; simp only [Option.bind_some]
  refine ⟨a, _, _, p3, rfl, a0, by omega, ?_⟩
  rw [show wrap64 (1 + b) = 1 + b by unfold wrap64; omega, show wrap64 (1 + c) = 1 + c by unfold wrap64; omega]
  exact ⟨by omega, by omega, by omega, by omega, h3⟩

/-! ### lines by sets -/
def Small (n : Nat) (o : List (List Int)) : Prop := ∀ l ∈ o, l.length ≤ n ∧ ∀ x ∈ l, 0 ≤ x ∧ x ≤ 1000
theorem Small.mono {n m : Nat} {o : List (List Int)} (h : Small n o) (hn : n ≤ m) : Small m o := fun l hl => ⟨Nat.le_trans (h l hl).1 hn, (h l hl).2⟩
theorem lists_loop (L : List Int) (a b c : Int) (ha : 0 ≤ a ∧ a ≤ 4) : ∀ (n k : Nat) (o : List (List Int)) (p : Int), n ≤ 8 → 2 * n + 2 ≤ k → InDeck L p → o.length ≤ 5 → Small (8 - n) o →
    ∃ o' q, timeboundlaw38_lists.l0 k o n L p a b c = some (o', q) ∧ InDeck L q ∧ o'.length ≤ 5 ∧ Small 8 o' := by
  intro n
  induction n with
  | zero =>
    intro k o p _ hk hp ho hs
    obtain ⟨k, rfl⟩ : ∃ m, k = m + 2 := ⟨k - 2, by omega⟩
    refine ⟨o, p, ?_, hp, ho, hs⟩
    simp only [timeboundlaw38_lists.l0]; rw [if_neg (by omega)]
    simp only [timeboundlaw38_lists.j1]; rw [if_neg (by decide)]
  | succ n ih =>
    intro k o p hn hk hp ho hs
    obtain ⟨k, rfl⟩ : ∃ m, k = m + 2 := ⟨k - 2, by omega⟩
    simp only [timeboundlaw38_lists.l0]; rw [if_pos (by omega)]
    simp only [timeboundlaw38_lists.j1]
    by_cases h0 : (o.length : Int) > 0
    · rw [decide_eq_true h0, if_pos rfl]
      obtain ⟨s, p1, e1, s0, s1, h1⟩ := next_ok L p (o.length : Int) hp (by omega)
      obtain ⟨t, p2, e2, t0, t1, h2⟩ := next_ok L p1 5 h1 (by omega)
      have hso : s < (o.length : Int) := by omega
      rw [e1]; simp only [Option.bind_some]
      rw [if_pos s0, if_pos hso, e2]; simp only [Option.bind_some]
      have hmem : rd_L1 o s ∈ o := by
        unfold rd_L1
        rw [List.getD_eq_getElem?_getD, List.getElem?_eq_getElem (show s.toNat < o.length by omega)]
        exact List.getElem_mem _
      have hl := hs _ hmem
      rw [if_pos (by omega)]
      have hat : 0 ≤ a * t ∧ a * t ≤ 16 := ⟨Int.mul_nonneg ha.1 t0, Int.le_trans (Int.mul_le_mul ha.2 (show t ≤ 4 by omega) t0 (by omega)) (by omega)⟩
      rw [show wrap64 (a * t) = a * t by unfold wrap64; omega, show wrap64 (s + a * t) = s + a * t by unfold wrap64; omega, show wrap64 ((n + 1 : Nat) - 1 : Int) = (n : Int) by unfold wrap64; omega]
      refine ih k _ p2 (by omega) (by omega) h2 (by rw [List.length_set]; exact ho) ?_
      intro l hl'
      rcases List.mem_or_eq_of_mem_set hl' with hl' | rfl
      · exact ⟨Nat.le_trans (hs l hl').1 (by omega), (hs l hl').2⟩
      · refine ⟨by rw [List.length_append, List.length_singleton]; omega, fun x hx => ?_⟩
        rcases List.mem_append.1 hx with hx | hx
        · exact hl.2 x hx
        · rw [List.mem_singleton.1 hx]; omega
    · rw [decide_eq_false h0, if_neg (by decide)]
      exact ⟨o, p, rfl, hp, ho, hs.mono (by omega)⟩
theorem lists_ok (L : List Int) (p a b c : Int) (ha : 0 ≤ a ∧ a ≤ 4) (h : InDeck L p) (k : Nat) (hk : 18 ≤ k) : ∃ o q, timeboundlaw38_lists.f k L p a b c = some (o, q) ∧ InDeck L q ∧ o.length ≤ 5 ∧ Small 8 o := by
  obtain ⟨t, p1, e1, t0, t1, h1⟩ := next_ok L p 12 h (by omega)
  obtain ⟨m, p2, e2, m0, m1, h2⟩ := next_ok L p1 9 h1 (by omega)
  unfold timeboundlaw38_lists.f
  rw [e1]; simp only [Option.bind_some]
  have ht : 0 ≤ Int.tdiv t 11 ∧ Int.tdiv t 11 ≤ 1 := by rw [Int.tdiv_eq_ediv_of_nonneg t0]; omega
  rw [show wrap64 (Int.tdiv t 11) = Int.tdiv t 11 by unfold wrap64; omega, show wrap64 (a + Int.tdiv t 11) = a + Int.tdiv t 11 by unfold wrap64; omega]
  generalize Int.tdiv t 11 = u at ht
  rw [if_pos (by omega), if_pos (by omega), e2]; simp only [Option.bind_some]
  obtain ⟨n, rfl⟩ := Int.eq_ofNat_of_zero_le m0
  exact lists_loop L a b c ha n k _ p2 (by omega) (by omega) h2 (by rw [List.length_replicate]; omega) (fun l hl => by rw [List.eq_of_mem_replicate hl]; exact ⟨by simp, fun x hx => by simp at hx⟩)

/-! ### the law -/
theorem lines_le (n : Nat) (s : Nat) : ∀ others : List (List (List Int)), (∀ o ∈ others, Small n o) → (linesAt others s).length ≤ others.length * n
  | [], _ => by simp [linesAt]
  | o :: r, h => by
    have ih := lines_le n s r (fun x hx => h x (List.mem_cons_of_mem _ hx))
    unfold linesAt at ih ⊢
    rw [List.flatMap_cons, List.length_append, List.length_cons, Nat.succ_mul]
    have : (o.getD s []).length ≤ n := by
      rw [List.getD_eq_getElem?_getD]
      cases hg : o[s]? with
      | none => simp
      | some l => exact (h o (List.mem_cons_self ..) l (List.mem_of_getElem? hg)).1
    omega
theorem common_same (a b c : Int) (ha : 0 ≤ a ∧ a ≤ 4) (hb : 1 ≤ b ∧ b ≤ 3) (hc : 1 ≤ c ∧ c ≤ 4) (m : List (List Int)) (others : List (List (List Int))) (hm : m.length ≤ 5) (ho : others.length ≤ 10) (hs : ∀ o ∈ others, Small 8 o) :
    ∃ r, evict_Common.f a b c m others = some r ∧ timeboundref38_Common.f a b c m others = some r := by
  have h1 : okLines others = true := by
    unfold okLines
    refine List.all_eq_true.2 fun o h => List.all_eq_true.2 fun l h' => List.all_eq_true.2 fun x h'' => ?_
    have := (hs o h l h').2 x h''
    exact WalkArith.wf_i64 (by omega)
  have h2 : fewLines others m.length = true := by
    unfold fewLines
    refine List.all_eq_true.2 fun s _ => decide_eq_true ?_
    have := lines_le 8 s others hs
    omega
  have h3 : okCache a b c = true := decide_eq_true (by omega)
  unfold evict_Common.f timeboundref38_Common.f
  have h4 : decide (0 ≤ b ∧ b ≤ 4 ∧ m.length ≤ 8) = true := decide_eq_true (by omega)
  rw [h1, h2, h3, h4]
  cases apartC a m others
  · exact ⟨_, rfl, rfl⟩
  · exact ⟨0, rfl, rfl⟩
theorem law_loop (L : List Int) (a b c : Int) (ha : 0 ≤ a ∧ a ≤ 4) (hb : 1 ≤ b ∧ b ≤ 3) (hc : 1 ≤ c ∧ c ≤ 4) (m : List (List Int)) (hm : m.length ≤ 5) : ∀ (n k : Nat) (others : List (List (List Int))) (p : Int), n ≤ 3 → n + 20 ≤ k → InDeck L p → others.length + n ≤ 10 → (∀ o ∈ others, Small 8 o) →
    timeboundlaw38_EvictCommon.l0 k m others n L p a b c = some true := by
  intro n
  induction n with
  | zero =>
    intro k others p _ hk hp ho hs
    obtain ⟨k, rfl⟩ : ∃ m, k = m + 1 := ⟨k - 1, by omega⟩
    obtain ⟨r, e1, e2⟩ := common_same a b c ha hb hc m others hm (by omega) hs
    simp only [timeboundlaw38_EvictCommon.l0]; rw [if_neg (by omega), e1]; simp only [Option.bind_some]; rw [e2]; simp [timeboundlaw38_awake.f]
  | succ n ih =>
    intro k others p hn hk hp ho hs
    obtain ⟨k, rfl⟩ : ∃ m, k = m + 1 := ⟨k - 1, by omega⟩
    obtain ⟨o, q, e1, h1, _, h3⟩ := lists_ok L p a b c ha hp k (by omega)
    simp only [timeboundlaw38_EvictCommon.l0]; rw [if_pos (by omega), e1]; simp only [Option.bind_some]
    rw [if_pos (by omega), show wrap64 ((n + 1 : Nat) - 1 : Int) = (n : Int) by unfold wrap64; omega]
    refine ih k _ q (by omega) (by omega) h1 (by rw [List.length_append, List.length_singleton]; omega) (fun x hx => ?_)
    rcases List.mem_append.1 hx with hx | hx
    · exact hs x hx
    · rw [List.mem_singleton.1 hx]; exact h3

theorem EvictCommon : timeboundlaw38_EvictCommon.Pure := by
  intro L _ hL _
  refine ⟨40, ?_⟩
  have h0 : InDeck L 0 := ⟨by omega, by omega, by omega⟩
  obtain ⟨a, b, c, p1, e1, a0, a1, b0, b1, c0, c1, h1⟩ := cache_ok L 0 h0
  obtain ⟨m, p2, e2, h2, hm, _⟩ := lists_ok L p1 a b c ⟨a0, a1⟩ h1 40 (by omega)
  obtain ⟨n, p3, e3, n0, n1, h3⟩ := next_ok L p2 4 h2 (by omega)
  unfold timeboundlaw38_EvictCommon.f timeboundmake_New.f
  simp only [Option.bind_some]
  rw [e1]; simp only [Option.bind_some]
  rw [e2]; simp only [Option.bind_some]
  rw [e3]; simp only [Option.bind_some]
  obtain ⟨n, rfl⟩ := Int.eq_ofNat_of_zero_le n0
  exact law_loop L a b c ⟨a0, a1⟩ ⟨b0, b1⟩ ⟨c0, c1⟩ m hm n 40 [] p3 (by omega) (by omega) h3 (by simp; omega) (fun x hx => by simp at hx)

end Go.Proofs.Ytgpdnfhmmeaoeaa.Pure
