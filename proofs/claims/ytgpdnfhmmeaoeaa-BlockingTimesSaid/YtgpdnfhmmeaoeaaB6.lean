/- Jobs made out of a deck. -/
import Derived.Test.YtgpdnfhmmeaoeaaB5
namespace Go.Proofs.Ytgpdnfhmmeaoeaa.PBt
open Go.RowKit Go.Proofs.YtgpdnfhmmeaoeaaW.PrintWords Go.Proofs.YtgpdnfhmmeaoeaaW.PrintLast Go.Proofs.YtgpdnfhmmeaoeaaW.PrintMore
set_option linter.unusedVariables false
set_option linter.unusedSimpArgs false

/-! ### a deck -/
def InDeck (L : List Int) (p : Int) : Prop := 0 ≤ p ∧ p ≤ (L.length : Int) ∧ (L.length : Int) ≤ 20000000000000
theorem mod_ok (a n : Int) (h1 : 1 ≤ n) (h2 : n ≤ 1000000000) : ∃ r, timeboundmake_Mod.f a n = some r ∧ 0 ≤ r ∧ r < n := by
  unfold timeboundmake_Mod.f
  rw [if_neg (by omega)]
  have e1 : Int.tmod a n < n := Int.tmod_lt_of_pos a (by omega)
  have e2 : -n < Int.tmod a n := by
    have := Int.tmod_lt_of_pos (-a) (show (0 : Int) < n by omega)
    rw [Int.neg_tmod] at this
    omega
  refine ⟨_, rfl, ?_⟩
  rw [show wrap64 (Int.tmod a n + n) = Int.tmod a n + n by unfold wrap64; omega]
  exact ⟨Int.tmod_nonneg _ (by omega), Int.tmod_lt_of_pos _ (by omega)⟩
theorem next_ok (L : List Int) (p n : Int) (h : InDeck L p) (hn : n ≤ 1000000000) : ∃ r q, timeboundmake_Deck_Next.f L p n = some (r, q) ∧ 0 ≤ r ∧ (r < n ∨ r = 0) ∧ InDeck L q := by
  obtain ⟨h0, h1, h2⟩ := h
  unfold timeboundmake_Deck_Next.f
  by_cases c1 : p ≥ (L.length : Int)
  · rw [if_pos c1]; exact ⟨0, p, rfl, by omega, .inr rfl, h0, h1, h2⟩
  · rw [if_neg c1]
    by_cases c2 : n ≤ 1
    · rw [if_pos c2]; exact ⟨0, p, rfl, by omega, .inr rfl, h0, h1, h2⟩
    · rw [if_neg c2]
      have e1 : wrap64 (p + 1) = p + 1 := by unfold wrap64; omega
      have e2 : wrap64 (p + 1 - 1) = p := by unfold wrap64; omega
      rw [e1, e2, if_pos h0, if_pos (by omega)]
      obtain ⟨r, hr, r0, r1⟩ := mod_ok (rd L p) n (by omega) hn
      rw [hr]
      exact ⟨r, p + 1, rfl, r0, .inl r1, by omega, by omega, h2⟩

def FewHolds (l : List S48) : Prop := ∀ x ∈ l, x.f5.length ≤ 2
theorem jobs_holds (L : List Int) (n : Int) (x5 : List S48) (hx5 : x5.length ≤ 100) (x9 : Int) (R : List S48 → Int → Prop)
    (hR : ∀ (y : S48) (q : Int), y.f5.length ≤ 2 → InDeck L q → ∃ k o r, timeboundmake2_Jobs.l0 k (x5 ++ [y]) n (wrap64 (x9 + 1)) L q = some (o, r) ∧ R o r) (a0 a1 a2 a3 a4 a6 : Int) :
    ∀ (t : Nat) (hs : List S50) (p : Int), hs.length + t ≤ 2 → InDeck L p → ∃ k o r, timeboundmake2_Jobs.l1 k x5 t n x9 L p a0 a1 a2 a3 a4 hs a6 = some (o, r) ∧ R o r
  | 0, hs, p, h2, hp => by
    obtain ⟨k, o, r, e, hr⟩ := hR ⟨a0, a1, a2, a3, a4, hs, a6⟩ p (by show hs.length ≤ 2; omega) hp
    refine ⟨k + 1, o, r, ?_, hr⟩
    simp only [timeboundmake2_Jobs.l1]; rw [if_neg (by omega), if_pos (by omega)]
    exact e
  | t + 1, hs, p, h2, hp => by
    obtain ⟨r1, p1, e1, _, _, h1⟩ := next_ok L p 3 hp (by omega)
    obtain ⟨r2, p2, e2, _, _, h2'⟩ := next_ok L p1 12 h1 (by omega)
    obtain ⟨k, o, r, e, hr⟩ := jobs_holds L n x5 hx5 x9 R hR a0 a1 a2 a3 a4 a6 t (hs ++ [⟨r1, r2⟩]) p2 (by rw [List.length_append, List.length_singleton]; omega) h2'
    refine ⟨k + 1, o, r, ?_, hr⟩
    simp only [timeboundmake2_Jobs.l1]; rw [if_pos (by omega), e1]; simp only [Option.bind_some]
    rw [e2]; simp only [Option.bind_some]
    rw [if_pos (by omega), show wrap64 (((t + 1 : Nat) : Int) - 1) = (t : Int) by unfold wrap64; omega]
    exact e
theorem jobs_ok (L : List Int) (n : Nat) (hn : n ≤ 50) : ∀ (d : Nat) (x5 : List S48) (p : Int), x5.length + d = n → FewHolds x5 → InDeck L p →
    ∃ k o r, timeboundmake2_Jobs.l0 k x5 n (x5.length : Int) L p = some (o, r) ∧ (o.length = n ∧ FewHolds o ∧ InDeck L r)
  | 0, x5, p, hd, hf, hp => by
    refine ⟨1, x5, p, ?_, by omega, hf, hp⟩
    simp only [timeboundmake2_Jobs.l0]; rw [if_neg (by omega)]
  | d + 1, x5, p, hd, hf, hp => by
    obtain ⟨r1, p1, e1, a1, b1, h1⟩ := next_ok L p 300 hp (by omega)
    obtain ⟨r2, p2, e2, _, _, h2⟩ := next_ok L p1 10 h1 (by omega)
    obtain ⟨r3, p3, e3, _, _, h3⟩ := next_ok L p2 4 h2 (by omega)
    obtain ⟨r4, p4, e4, _, _, h4⟩ := next_ok L p3 25 h3 (by omega)
    obtain ⟨r5, p5, e5, _, _, h5⟩ := next_ok L p4 5 h4 (by omega)
    obtain ⟨r6, p6, e6, _, _, h6⟩ := next_ok L p5 40 h5 (by omega)
    obtain ⟨r7, p7, e7, a7, b7, h7⟩ := next_ok L p6 3 h6 (by omega)
    obtain ⟨t, rfl⟩ := Int.eq_ofNat_of_zero_le a7
    obtain ⟨k, o, r, e, hr⟩ := jobs_holds L n x5 (by omega) (x5.length : Int) (fun o r => o.length = n ∧ FewHolds o ∧ InDeck L r) (fun y q hy hq => by
      rw [show wrap64 ((x5.length : Int) + 1) = (((x5 ++ [y]).length : Nat) : Int) by rw [List.length_append, List.length_singleton]; unfold wrap64; omega]
      exact jobs_ok L n hn d (x5 ++ [y]) q (by rw [List.length_append, List.length_singleton]; omega) (fun z hz => by
        rcases List.mem_append.1 hz with hz | hz
        · exact hf z hz
        · rw [List.mem_singleton.1 hz]; exact hy) hq) (wrap64 (50 + r1)) (mx 1 (wrap64 ((wrap64 (50 + r1)) - r6))) r2 r3 r4 r5 t [] p7 (by simp; omega) h7
    refine ⟨k + 1, o, r, ?_, hr⟩
    simp only [timeboundmake2_Jobs.l0]; rw [if_pos (by omega), e1]; simp only [Option.bind_some]
    rw [e2]; simp only [Option.bind_some]
    rw [e3]; simp only [Option.bind_some]
    rw [e4]; simp only [Option.bind_some]
    rw [e5]; simp only [Option.bind_some]
    rw [e6]; simp only [Option.bind_some]
    rw [e7]; simp only [Option.bind_some]
    exact e
theorem jobs_made (L : List Int) (n : Nat) (hn : n ≤ 50) (p : Int) (hp : InDeck L p) : ∃ k o r, timeboundmake2_Jobs.f k L p n = some (o, r) ∧ o.length = n ∧ FewHolds o ∧ InDeck L r :=
  jobs_ok L n hn n [] p (by simp) (fun x hx => by simp at hx) hp
end Go.Proofs.Ytgpdnfhmmeaoeaa.PBt
