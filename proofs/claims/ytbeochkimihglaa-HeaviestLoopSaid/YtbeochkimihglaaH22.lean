/- what prices needs. -/
import Derived.Test.YtbeochkimihglaaH20
import Derived.Test.YtbeochkimihglaaH21
import Derived.Outline
import Derived.Deep.CutRange
namespace Go.Proofs.Ytbeochkimihglaa.PHl
open Go.RowKit Go.Proofs.YtbeochkimihglaaW.PrintWords Go.Proofs.YtbeochkimihglaaW.PrintLast Go.Proofs.YtbeochkimihglaaW.PrintMore
set_option linter.unusedVariables false
set_option linter.unusedSimpArgs false
theorem keepT {W : World} {x y z b j : Nat} {v u : Value} {A B : Array Value} (h : (∀ i, W.cell? ⟨x, i, none⟩ = A[i]?) ∧ (∀ i, W.cell? ⟨y, i, none⟩ = B[i]?) ∧ W.cell? ⟨z, 0, none⟩ = some u) (h1 : ¬ x = b) (h2 : ¬ y = b) (h3 : ¬ z = b) :
    (∀ i, (W.setCell ⟨b, j, none⟩ v).cell? ⟨x, i, none⟩ = A[i]?) ∧ (∀ i, (W.setCell ⟨b, j, none⟩ v).cell? ⟨y, i, none⟩ = B[i]?) ∧ (W.setCell ⟨b, j, none⟩ v).cell? ⟨z, 0, none⟩ = some u :=
  ⟨fun i => (World.cell?_of_block (Below.heap_setCell W ⟨b, j, none⟩ v x h1)).trans (h.1 i), fun i => (World.cell?_of_block (Below.heap_setCell W ⟨b, j, none⟩ v y h2)).trans (h.2.1 i), (World.cell?_of_block (Below.heap_setCell W ⟨b, j, none⟩ v z h3)).trans h.2.2⟩
theorem wp_append_at {P : Program} {o : Oper} {a : Act} {Q : Exit → Act → World → Prop} {Kc : Act → World → Prop} (w : World) (s x : Operand) (t : TypeId)
    (ho : o.op = .call { callee := .builtin .append, args := #[s, x], argTypes := #[t, t] })
    (base : Nat) (e : TypeId) (i : TypeInfo) (z : Value) (size bytes : Nat) (ht : P.underlying t = some (.slice e)) (hi : P.info? e = some i) (hz : i.zero = some z)
    (hsize : i.size = size) (hby : i.bytes = bytes) (hzs : z.cells.size = size) (hsz : 0 < size)
    (v : Value) (n : Nat) (xs : List Value) (hs : a.eval s = v) (hown : w.ownsRow base e size v n xs)
    (ad : Addr) (m c : Nat) (news : List Value) (hx : a.eval x = .slice (some ad) m c) (hl : news.length = m * size) (hnews : ∀ j u, news[j]? = some u → w.cell? (ad.add j) = some u) (h1 : ∀ u ∈ news, u.oneCell' = true)
    (h63 : n + m ≤ maxLen) (hbytes : (n + m) * bytes ≤ 140737488355328) (hbase : base ≤ w.heap.size)
    (h : ∀ v' w', w'.ownsRow base e size v' (n + m) (xs ++ news) → w.grownBy w' v.ownBlock → (v' = .slice none 0 0 ↔ v = .slice none 0 0 ∧ m = 0) → (v'.ownBlock = v.ownBlock ∨ v'.ownBlock = some w.heap.size) → Kc (a.put o.dst v') w') :
    Oper.wp P o a w Kc Q := by
  obtain ⟨v', w', hr, h2, h3, h4, h5⟩ := run_append_own_at (P := P) w base t o.type e i z size bytes ht hi hz hsize hby hzs hsz v n xs hown ad m c news hl hnews h1 h63 hbytes hbase
  unfold Oper.wp execOp
  simp only [ho, resolve, invoke, builtin, Sem.run_bind, Sem.run_pure, Result.andThen_ok, List.map_toArray, List.map_cons, List.map_nil, hs, hx, hr]
  exact h v' w' h2 h3 h4 h5
theorem blkd {W : World} {b : Nat} {cs : Array Value} {t : TypeId} (h : Blk W b cs t) : Blk W.drew b cs t := blk_drew h
set_option maxHeartbeats 8000000 in
set_option maxRecDepth 100000 in
theorem prices_one (bn bl n0 n1 n2 ln : Nat) (mx : Int) (w : World) (hU : UnitW w bn bl n0 n1 n2 ln mx) (be k0 k1 k2 k3 kt : Nat) (cb ch cl cd ce ct : Int) (hC : CostW w be k0 k1 k2 k3 kt cb ch cl cd ce ct) (hlow : Low cb ch cl cd ce ct mx) (dd : Nat) (hD : Blk w dd #[.bool false, .bool true, .bool false, .bool false] 4) :
    Calls Try.prog 11 #[UV bn bl, CV be kt, .slice (some ⟨dd, 0, none⟩) 4 4] w fun e w' => ∃ bo br, e = .returned (.tuple #[.slice (some ⟨bo, 0, none⟩) 1 1, .slice (some ⟨br, 0, none⟩) 1 1]) ∧ Blk w' bo #[.int .i64 (0)] 3 ∧ Below w.heap.size w w' := by
  have hu32 := Try.underlying32
  have hu34 := Try.underlying34
  have hu38 := Try.underlying38
  have hu46 := Try.underlying46
  have HLOW := Aside0.mk hlow
  have BD := Aside0.mk hD
  clear hD
  obtain ⟨⟨gcb, gcb'⟩, ⟨gch, gch'⟩, ⟨gcl, gcl'⟩, ⟨gcd, gcd'⟩, ⟨gce, gce'⟩, ⟨gct, gct'⟩, gmx, gmx'⟩ := hlow
  have hm3 : ∀ W, (Instr.makeSlice 29 (.int .i64 1) (.int .i64 1)).run Try.prog W = .ok (.slice (some ⟨W.heap.size, 0, none⟩) 1 1) (W.alloc (.cells #[.int .i64 0] 3)) := fun W => by kernel_rfl
  have hm5 : ∀ W, (Instr.makeSlice 53 (.int .i64 1) (.int .i64 1)).run Try.prog W = .ok (.slice (some ⟨W.heap.size, 0, none⟩) 1 1) (W.alloc (.cells #[.slice none 0 0] 58)) := fun W => by kernel_rfl
  have HU := Aside0.mk hU
  have HC := Aside0.mk hC
  have HB : Aside0 (Below w.heap.size w w) := ⟨Below.refl _ _⟩
  clear hU hC
  go_enter Try.func11, Try.ntmps11
  go_upto_region 1 with (fail)
  have hb : Below w.heap.size w ((w.alloc (.cells #[.string ⟨#[]⟩, .slice (some ⟨bn, 0, none⟩) 4 4, .slice (some ⟨bl, 0, none⟩) 1 1, .slice none 0 0, .slice none 0 0, .slice none 0 0, .slice none 0 0, .slice none 0 0, .slice none 0 0, .slice none 0 0] 32)).alloc (.cells #[.slice (some ⟨be, 0, none⟩) 4 4, .slice (some ⟨kt, 0, none⟩) 1 1] 34)) := (by repeat (first | with_reducible exact Below.refl _ _ | apply below_alloc | apply pw_below_drewN | apply below_drew1))
  have BU : Aside0 (Blk ((w.alloc (.cells #[.string ⟨#[]⟩, .slice (some ⟨bn, 0, none⟩) 4 4, .slice (some ⟨bl, 0, none⟩) 1 1, .slice none 0 0, .slice none 0 0, .slice none 0 0, .slice none 0 0, .slice none 0 0, .slice none 0 0, .slice none 0 0] 32)).alloc (.cells #[.slice (some ⟨be, 0, none⟩) 4 4, .slice (some ⟨kt, 0, none⟩) 1 1] 34)) w.heap.size #[.string ⟨#[]⟩, .slice (some ⟨bn, 0, none⟩) 4 4, .slice (some ⟨bl, 0, none⟩) 1 1, .slice none 0 0, .slice none 0 0, .slice none 0 0, .slice none 0 0, .slice none 0 0, .slice none 0 0, .slice none 0 0] 32) := ⟨(by (repeat (first | with_reducible exact heap_alloc_new _ _ | with_reducible exact heap_alloc2_new _ _ _ | with_reducible exact blk_at3 _ _ _ _ | with_reducible exact blk_at4 _ _ _ _ _ | refine blk_alloc ?_ _)))⟩
  have BC : Aside0 (Blk ((w.alloc (.cells #[.string ⟨#[]⟩, .slice (some ⟨bn, 0, none⟩) 4 4, .slice (some ⟨bl, 0, none⟩) 1 1, .slice none 0 0, .slice none 0 0, .slice none 0 0, .slice none 0 0, .slice none 0 0, .slice none 0 0, .slice none 0 0] 32)).alloc (.cells #[.slice (some ⟨be, 0, none⟩) 4 4, .slice (some ⟨kt, 0, none⟩) 1 1] 34)) (w.heap.size + 1) #[.slice (some ⟨be, 0, none⟩) 4 4, .slice (some ⟨kt, 0, none⟩) 1 1] 34) := ⟨(by (repeat (first | with_reducible exact heap_alloc_new _ _ | with_reducible exact heap_alloc2_new _ _ _ | with_reducible exact blk_at3 _ _ _ _ | with_reducible exact blk_at4 _ _ _ _ _ | refine blk_alloc ?_ _)))⟩
  replace HB := Aside0.mk (below_step HB.out hb)
  replace HU := Aside0.mk (HU.out.below hb)
  replace HC := Aside0.mk (HC.out.below hb)
  replace BD := Aside0.mk (blk_below BD.out hb)
  clear hb
  generalize ((w.alloc (.cells #[.string ⟨#[]⟩, .slice (some ⟨bn, 0, none⟩) 4 4, .slice (some ⟨bl, 0, none⟩) 1 1, .slice none 0 0, .slice none 0 0, .slice none 0 0, .slice none 0 0, .slice none 0 0, .slice none 0 0, .slice none 0 0] 32)).alloc (.cells #[.slice (some ⟨be, 0, none⟩) 4 4, .slice (some ⟨kt, 0, none⟩) 1 1] 34)) = Wa at HU HC HB BD BU BC ⊢
  have HNa : Aside0 (w.heap.size ≤ Wa.heap.size) := ⟨HB.out.size⟩
  obtain ⟨hN, hL, h0, h1, h1', h2, hln, hln'⟩ := HU.out.reads
  obtain ⟨lbn, lbl, ln0, ln1, ln2, lln⟩ := HU.out.lts
  have lbnA : ∀ k, bn < Wa.heap.size + k := fun k => by omega
  have lbnB : ∀ k j, bn < Wa.heap.size + k + j := fun k j => by omega
  have lblA : ∀ k, bl < Wa.heap.size + k := fun k => by omega
  have lblB : ∀ k j, bl < Wa.heap.size + k + j := fun k j => by omega
  have ln0A : ∀ k, n0 < Wa.heap.size + k := fun k => by omega
  have ln0B : ∀ k j, n0 < Wa.heap.size + k + j := fun k j => by omega
  have ln1A : ∀ k, n1 < Wa.heap.size + k := fun k => by omega
  have ln1B : ∀ k j, n1 < Wa.heap.size + k + j := fun k j => by omega
  have ln2A : ∀ k, n2 < Wa.heap.size + k := fun k => by omega
  have ln2B : ∀ k j, n2 < Wa.heap.size + k + j := fun k j => by omega
  have llnA : ∀ k, ln < Wa.heap.size + k := fun k => by omega
  have llnB : ∀ k j, ln < Wa.heap.size + k + j := fun k j => by omega
  obtain ⟨hE, q0, q1, q1', q2, q3, qt⟩ := HC.out.reads
  obtain ⟨lbe, lk0, lk1, lk2, lk3, lkt⟩ := HC.out.lts
  have lbeA : ∀ k, be < Wa.heap.size + k := fun k => by omega
  have lbeB : ∀ k j, be < Wa.heap.size + k + j := fun k j => by omega
  have lk0A : ∀ k, k0 < Wa.heap.size + k := fun k => by omega
  have lk0B : ∀ k j, k0 < Wa.heap.size + k + j := fun k j => by omega
  have lk1A : ∀ k, k1 < Wa.heap.size + k := fun k => by omega
  have lk1B : ∀ k j, k1 < Wa.heap.size + k + j := fun k j => by omega
  have lk2A : ∀ k, k2 < Wa.heap.size + k := fun k => by omega
  have lk2B : ∀ k j, k2 < Wa.heap.size + k + j := fun k j => by omega
  have lk3A : ∀ k, k3 < Wa.heap.size + k := fun k => by omega
  have lk3B : ∀ k j, k3 < Wa.heap.size + k + j := fun k j => by omega
  have lktA : ∀ k, kt < Wa.heap.size + k := fun k => by omega
  have lktB : ∀ k j, kt < Wa.heap.size + k + j := fun k j => by omega
  have hBD : ∀ i, Wa.cell? ⟨dd, i, none⟩ = (#[.bool false, .bool true, .bool false, .bool false] : Array Value)[i]? := fun i => blk_cell BD.out i
  have ltBD := blk_lt BD.out
  have ltBDA : ∀ k, dd < Wa.heap.size + k := fun k => by omega
  have ltBDB : ∀ k j, dd < Wa.heap.size + k + j := fun k j => by omega
  have hBU : ∀ i, Wa.cell? ⟨w.heap.size, i, none⟩ = (#[.string ⟨#[]⟩, .slice (some ⟨bn, 0, none⟩) 4 4, .slice (some ⟨bl, 0, none⟩) 1 1, .slice none 0 0, .slice none 0 0, .slice none 0 0, .slice none 0 0, .slice none 0 0, .slice none 0 0, .slice none 0 0] : Array Value)[i]? := fun i => blk_cell BU.out i
  have ltBU := blk_lt BU.out
  have ltBUA : ∀ k, w.heap.size < Wa.heap.size + k := fun k => by omega
  have ltBUB : ∀ k j, w.heap.size < Wa.heap.size + k + j := fun k j => by omega
  have hBC : ∀ i, Wa.cell? ⟨(w.heap.size + 1), i, none⟩ = (#[.slice (some ⟨be, 0, none⟩) 4 4, .slice (some ⟨kt, 0, none⟩) 1 1] : Array Value)[i]? := fun i => blk_cell BC.out i
  have ltBC := blk_lt BC.out
  have ltBCA : ∀ k, (w.heap.size + 1) < Wa.heap.size + k := fun k => by omega
  have ltBCB : ∀ k j, (w.heap.size + 1) < Wa.heap.size + k + j := fun k j => by omega
  go_cut [8, 9] from 17 to 24 (fun a b wx => ∃ bo br, a = .slice (some ⟨bo, 0, none⟩) 1 1 ∧ b = .slice (some ⟨br, 0, none⟩) 1 1 ∧ Blk wx bo #[.int .i64 0] 3 ∧ Blk wx br #[.slice none 0 0] 58 ∧ Wa.heap.size ≤ bo ∧ Wa.heap.size ≤ br ∧ Below Wa.heap.size Wa wx)
  case first =>
    go_region
    all_goals
      go_wp2_with fail
      go_meet
      exact ⟨_, _, rfl, rfl, by first | with_reducible exact blkd (blk_alloc (heap_alloc_new Wa _) _) | with_reducible exact blkd (heap_alloc2_new Wa _ _), by first | with_reducible exact blkd (blk_alloc (heap_alloc_new Wa _) _) | with_reducible exact blkd (heap_alloc2_new Wa _ _), by omega, by omega, below_drew1 (below_alloc (below_alloc (Below.refl _ _) _) _)⟩
  obtain ⟨bo, br, rfl, rfl, hbo, hbr, hbo0, hbr0, hb⟩ := hcut
  obtain ⟨W1, hww⟩ : ∃ x, x = wc := ⟨_, rfl⟩
  subst hww
  clear hm3 hm5
  have BO := Aside0.mk hbo
  have BR := Aside0.mk hbr
  have HBO := Aside0.mk hbo0
  have HBR := Aside0.mk hbr0
  clear hbo hbr hbo0 hbr0
  clear hN hL h0 h1 h1' h2 hln hln' lbn lbl ln0 ln1 ln2 lln lbnA lbnB lblA lblB ln0A ln0B ln1A ln1B ln2A ln2B llnA llnB hE q0 q1 q1' q2 q3 qt lbe lk0 lk1 lk2 lk3 lkt lbeA lbeB lk0A lk0B lk1A lk1B lk2A lk2B lk3A lk3B lktA lktB hBD ltBD ltBDA ltBDB hBU ltBU ltBUA ltBUB hBC ltBC ltBCA ltBCB
  replace HB := Aside0.mk (below_step HB.out hb)
  replace HU := Aside0.mk (HU.out.below hb)
  replace HC := Aside0.mk (HC.out.below hb)
  replace BD := Aside0.mk (blk_below BD.out hb)
  replace BU := Aside0.mk (blk_below BU.out hb)
  replace BC := Aside0.mk (blk_below BC.out hb)
  clear hb
  obtain ⟨hN, hL, h0, h1, h1', h2, hln, hln'⟩ := HU.out.reads
  obtain ⟨lbn, lbl, ln0, ln1, ln2, lln⟩ := HU.out.lts
  have lbnA : ∀ k, bn < W1.heap.size + k := fun k => by omega
  have lbnB : ∀ k j, bn < W1.heap.size + k + j := fun k j => by omega
  have lblA : ∀ k, bl < W1.heap.size + k := fun k => by omega
  have lblB : ∀ k j, bl < W1.heap.size + k + j := fun k j => by omega
  have ln0A : ∀ k, n0 < W1.heap.size + k := fun k => by omega
  have ln0B : ∀ k j, n0 < W1.heap.size + k + j := fun k j => by omega
  have ln1A : ∀ k, n1 < W1.heap.size + k := fun k => by omega
  have ln1B : ∀ k j, n1 < W1.heap.size + k + j := fun k j => by omega
  have ln2A : ∀ k, n2 < W1.heap.size + k := fun k => by omega
  have ln2B : ∀ k j, n2 < W1.heap.size + k + j := fun k j => by omega
  have llnA : ∀ k, ln < W1.heap.size + k := fun k => by omega
  have llnB : ∀ k j, ln < W1.heap.size + k + j := fun k j => by omega
  obtain ⟨hE, q0, q1, q1', q2, q3, qt⟩ := HC.out.reads
  obtain ⟨lbe, lk0, lk1, lk2, lk3, lkt⟩ := HC.out.lts
  have lbeA : ∀ k, be < W1.heap.size + k := fun k => by omega
  have lbeB : ∀ k j, be < W1.heap.size + k + j := fun k j => by omega
  have lk0A : ∀ k, k0 < W1.heap.size + k := fun k => by omega
  have lk0B : ∀ k j, k0 < W1.heap.size + k + j := fun k j => by omega
  have lk1A : ∀ k, k1 < W1.heap.size + k := fun k => by omega
  have lk1B : ∀ k j, k1 < W1.heap.size + k + j := fun k j => by omega
  have lk2A : ∀ k, k2 < W1.heap.size + k := fun k => by omega
  have lk2B : ∀ k j, k2 < W1.heap.size + k + j := fun k j => by omega
  have lk3A : ∀ k, k3 < W1.heap.size + k := fun k => by omega
  have lk3B : ∀ k j, k3 < W1.heap.size + k + j := fun k j => by omega
  have lktA : ∀ k, kt < W1.heap.size + k := fun k => by omega
  have lktB : ∀ k j, kt < W1.heap.size + k + j := fun k j => by omega
  have hBD : ∀ i, W1.cell? ⟨dd, i, none⟩ = (#[.bool false, .bool true, .bool false, .bool false] : Array Value)[i]? := fun i => blk_cell BD.out i
  have ltBD := blk_lt BD.out
  have ltBDA : ∀ k, dd < W1.heap.size + k := fun k => by omega
  have ltBDB : ∀ k j, dd < W1.heap.size + k + j := fun k j => by omega
  have hBU : ∀ i, W1.cell? ⟨w.heap.size, i, none⟩ = (#[.string ⟨#[]⟩, .slice (some ⟨bn, 0, none⟩) 4 4, .slice (some ⟨bl, 0, none⟩) 1 1, .slice none 0 0, .slice none 0 0, .slice none 0 0, .slice none 0 0, .slice none 0 0, .slice none 0 0, .slice none 0 0] : Array Value)[i]? := fun i => blk_cell BU.out i
  have ltBU := blk_lt BU.out
  have ltBUA : ∀ k, w.heap.size < W1.heap.size + k := fun k => by omega
  have ltBUB : ∀ k j, w.heap.size < W1.heap.size + k + j := fun k j => by omega
  have hBC : ∀ i, W1.cell? ⟨(w.heap.size + 1), i, none⟩ = (#[.slice (some ⟨be, 0, none⟩) 4 4, .slice (some ⟨kt, 0, none⟩) 1 1] : Array Value)[i]? := fun i => blk_cell BC.out i
  have ltBC := blk_lt BC.out
  have ltBCA : ∀ k, (w.heap.size + 1) < W1.heap.size + k := fun k => by omega
  have ltBCB : ∀ k j, (w.heap.size + 1) < W1.heap.size + k + j := fun k j => by omega
  have hBO : ∀ i, W1.cell? ⟨bo, i, none⟩ = (#[.int .i64 0] : Array Value)[i]? := fun i => blk_cell BO.out i
  have ltBO := blk_lt BO.out
  have ltBOA : ∀ k, bo < W1.heap.size + k := fun k => by omega
  have ltBOB : ∀ k j, bo < W1.heap.size + k + j := fun k j => by omega
  have fzBO := fun j => blk_frozen BO.out j
  have hBR : ∀ i, W1.cell? ⟨br, i, none⟩ = (#[.slice none 0 0] : Array Value)[i]? := fun i => blk_cell BR.out i
  have ltBR := blk_lt BR.out
  have ltBRA : ∀ k, br < W1.heap.size + k := fun k => by omega
  have ltBRB : ∀ k j, br < W1.heap.size + k + j := fun k j => by omega
  have fzBR := fun j => blk_frozen BR.out j
  go_wp2_with fail
  clear hN hL h0 h1 h1' h2 hln hln' lbn lbl ln0 ln1 ln2 lln lbnA lbnB lblA lblB ln0A ln0B ln1A ln1B ln2A ln2B llnA llnB hE q0 q1 q1' q2 q3 qt lbe lk0 lk1 lk2 lk3 lkt lbeA lbeB lk0A lk0B lk1A lk1B lk2A lk2B lk3A lk3B lktA lktB hBD ltBD ltBDA ltBDB hBU ltBU ltBUA ltBUB hBC ltBC ltBCA ltBCB hBO ltBO ltBOA ltBOB fzBO hBR ltBR ltBRA ltBRB fzBR
  refine (gone_calls bn bl n0 n1 n2 ln mx _ HU.out dd false true false false BD.out).mono ?_
  rintro e w2 ⟨B, rfl, hB0, hR, hb⟩
  replace HB := Aside0.mk (below_step HB.out hb)
  replace HU := Aside0.mk (HU.out.below hb)
  replace HC := Aside0.mk (HC.out.below hb)
  replace BD := Aside0.mk (blk_below BD.out hb)
  replace BU := Aside0.mk (blk_below BU.out hb)
  replace BC := Aside0.mk (blk_below BC.out hb)
  replace BO := Aside0.mk (blk_below BO.out hb)
  replace BR := Aside0.mk (blk_below BR.out hb)
  clear hb
  have BB := Aside0.mk hR
  clear hR hB0
  obtain ⟨hN, hL, h0, h1, h1', h2, hln, hln'⟩ := HU.out.reads
  obtain ⟨lbn, lbl, ln0, ln1, ln2, lln⟩ := HU.out.lts
  have lbnA : ∀ k, bn < w2.heap.size + k := fun k => by omega
  have lbnB : ∀ k j, bn < w2.heap.size + k + j := fun k j => by omega
  have lblA : ∀ k, bl < w2.heap.size + k := fun k => by omega
  have lblB : ∀ k j, bl < w2.heap.size + k + j := fun k j => by omega
  have ln0A : ∀ k, n0 < w2.heap.size + k := fun k => by omega
  have ln0B : ∀ k j, n0 < w2.heap.size + k + j := fun k j => by omega
  have ln1A : ∀ k, n1 < w2.heap.size + k := fun k => by omega
  have ln1B : ∀ k j, n1 < w2.heap.size + k + j := fun k j => by omega
  have ln2A : ∀ k, n2 < w2.heap.size + k := fun k => by omega
  have ln2B : ∀ k j, n2 < w2.heap.size + k + j := fun k j => by omega
  have llnA : ∀ k, ln < w2.heap.size + k := fun k => by omega
  have llnB : ∀ k j, ln < w2.heap.size + k + j := fun k j => by omega
  obtain ⟨hE, q0, q1, q1', q2, q3, qt⟩ := HC.out.reads
  obtain ⟨lbe, lk0, lk1, lk2, lk3, lkt⟩ := HC.out.lts
  have lbeA : ∀ k, be < w2.heap.size + k := fun k => by omega
  have lbeB : ∀ k j, be < w2.heap.size + k + j := fun k j => by omega
  have lk0A : ∀ k, k0 < w2.heap.size + k := fun k => by omega
  have lk0B : ∀ k j, k0 < w2.heap.size + k + j := fun k j => by omega
  have lk1A : ∀ k, k1 < w2.heap.size + k := fun k => by omega
  have lk1B : ∀ k j, k1 < w2.heap.size + k + j := fun k j => by omega
  have lk2A : ∀ k, k2 < w2.heap.size + k := fun k => by omega
  have lk2B : ∀ k j, k2 < w2.heap.size + k + j := fun k j => by omega
  have lk3A : ∀ k, k3 < w2.heap.size + k := fun k => by omega
  have lk3B : ∀ k j, k3 < w2.heap.size + k + j := fun k j => by omega
  have lktA : ∀ k, kt < w2.heap.size + k := fun k => by omega
  have lktB : ∀ k j, kt < w2.heap.size + k + j := fun k j => by omega
  have hBD : ∀ i, w2.cell? ⟨dd, i, none⟩ = (#[.bool false, .bool true, .bool false, .bool false] : Array Value)[i]? := fun i => blk_cell BD.out i
  have ltBD := blk_lt BD.out
  have ltBDA : ∀ k, dd < w2.heap.size + k := fun k => by omega
  have ltBDB : ∀ k j, dd < w2.heap.size + k + j := fun k j => by omega
  have hBU : ∀ i, w2.cell? ⟨w.heap.size, i, none⟩ = (#[.string ⟨#[]⟩, .slice (some ⟨bn, 0, none⟩) 4 4, .slice (some ⟨bl, 0, none⟩) 1 1, .slice none 0 0, .slice none 0 0, .slice none 0 0, .slice none 0 0, .slice none 0 0, .slice none 0 0, .slice none 0 0] : Array Value)[i]? := fun i => blk_cell BU.out i
  have ltBU := blk_lt BU.out
  have ltBUA : ∀ k, w.heap.size < w2.heap.size + k := fun k => by omega
  have ltBUB : ∀ k j, w.heap.size < w2.heap.size + k + j := fun k j => by omega
  have hBC : ∀ i, w2.cell? ⟨(w.heap.size + 1), i, none⟩ = (#[.slice (some ⟨be, 0, none⟩) 4 4, .slice (some ⟨kt, 0, none⟩) 1 1] : Array Value)[i]? := fun i => blk_cell BC.out i
  have ltBC := blk_lt BC.out
  have ltBCA : ∀ k, (w.heap.size + 1) < w2.heap.size + k := fun k => by omega
  have ltBCB : ∀ k j, (w.heap.size + 1) < w2.heap.size + k + j := fun k j => by omega
  have hBO : ∀ i, w2.cell? ⟨bo, i, none⟩ = (#[.int .i64 0] : Array Value)[i]? := fun i => blk_cell BO.out i
  have ltBO := blk_lt BO.out
  have ltBOA : ∀ k, bo < w2.heap.size + k := fun k => by omega
  have ltBOB : ∀ k j, bo < w2.heap.size + k + j := fun k j => by omega
  have fzBO := fun j => blk_frozen BO.out j
  have hBR : ∀ i, w2.cell? ⟨br, i, none⟩ = (#[.slice none 0 0] : Array Value)[i]? := fun i => blk_cell BR.out i
  have ltBR := blk_lt BR.out
  have ltBRA : ∀ k, br < w2.heap.size + k := fun k => by omega
  have ltBRB : ∀ k j, br < w2.heap.size + k + j := fun k j => by omega
  have fzBR := fun j => blk_frozen BR.out j
  have hBB : ∀ i, w2.cell? ⟨B, i, none⟩ = (#[.bool false, .bool true, .bool false, .bool false] : Array Value)[i]? := fun i => blk_cell BB.out i
  have ltBB := blk_lt BB.out
  have ltBBA : ∀ k, B < w2.heap.size + k := fun k => by omega
  have ltBBB : ∀ k j, B < w2.heap.size + k + j := fun k j => by omega
  go_wp2_with fail
  refine wp_loop_rounds 6 ?_
  rw [rounds_succ]
  go_wp2_with fail
  rw [rounds_succ]
  go_wp2_with fail
  go_ret2
  exact ⟨bo, br, rfl, blk_below BO.out (by repeat (first | with_reducible exact Below.refl _ _ | apply below_alloc | apply pw_below_drewN | apply below_drew1)), below_step HB.out (by repeat (first | with_reducible exact Below.refl _ _ | apply below_alloc | apply pw_below_drewN | apply below_drew1))⟩
set_option maxHeartbeats 8000000 in
set_option maxRecDepth 100000 in
theorem prices_two (bn bl n0 n1 n2 ln : Nat) (mx : Int) (w : World) (hU : UnitW w bn bl n0 n1 n2 ln mx) (be k0 k1 k2 k3 kt : Nat) (cb ch cl cd ce ct : Int) (hC : CostW w be k0 k1 k2 k3 kt cb ch cl cd ce ct) (hlow : Low cb ch cl cd ce ct mx) (dd : Nat) (hD : Blk w dd #[.bool false, .bool false, .bool true, .bool false] 4) :
    Calls Try.prog 11 #[UV bn bl, CV be kt, .slice (some ⟨dd, 0, none⟩) 4 4] w fun e w' => ∃ bo br, e = .returned (.tuple #[.slice (some ⟨bo, 0, none⟩) 1 1, .slice (some ⟨br, 0, none⟩) 1 1]) ∧ Blk w' bo #[.int .i64 (0)] 3 ∧ Below w.heap.size w w' := by
  have hu32 := Try.underlying32
  have hu34 := Try.underlying34
  have hu38 := Try.underlying38
  have hu46 := Try.underlying46
  have HLOW := Aside0.mk hlow
  have BD := Aside0.mk hD
  clear hD
  obtain ⟨⟨gcb, gcb'⟩, ⟨gch, gch'⟩, ⟨gcl, gcl'⟩, ⟨gcd, gcd'⟩, ⟨gce, gce'⟩, ⟨gct, gct'⟩, gmx, gmx'⟩ := hlow
  have hm3 : ∀ W, (Instr.makeSlice 29 (.int .i64 1) (.int .i64 1)).run Try.prog W = .ok (.slice (some ⟨W.heap.size, 0, none⟩) 1 1) (W.alloc (.cells #[.int .i64 0] 3)) := fun W => by kernel_rfl
  have hm5 : ∀ W, (Instr.makeSlice 53 (.int .i64 1) (.int .i64 1)).run Try.prog W = .ok (.slice (some ⟨W.heap.size, 0, none⟩) 1 1) (W.alloc (.cells #[.slice none 0 0] 58)) := fun W => by kernel_rfl
  have HU := Aside0.mk hU
  have HC := Aside0.mk hC
  have HB : Aside0 (Below w.heap.size w w) := ⟨Below.refl _ _⟩
  clear hU hC
  go_enter Try.func11, Try.ntmps11
  go_upto_region 1 with (fail)
  have hb : Below w.heap.size w ((w.alloc (.cells #[.string ⟨#[]⟩, .slice (some ⟨bn, 0, none⟩) 4 4, .slice (some ⟨bl, 0, none⟩) 1 1, .slice none 0 0, .slice none 0 0, .slice none 0 0, .slice none 0 0, .slice none 0 0, .slice none 0 0, .slice none 0 0] 32)).alloc (.cells #[.slice (some ⟨be, 0, none⟩) 4 4, .slice (some ⟨kt, 0, none⟩) 1 1] 34)) := (by repeat (first | with_reducible exact Below.refl _ _ | apply below_alloc | apply pw_below_drewN | apply below_drew1))
  have BU : Aside0 (Blk ((w.alloc (.cells #[.string ⟨#[]⟩, .slice (some ⟨bn, 0, none⟩) 4 4, .slice (some ⟨bl, 0, none⟩) 1 1, .slice none 0 0, .slice none 0 0, .slice none 0 0, .slice none 0 0, .slice none 0 0, .slice none 0 0, .slice none 0 0] 32)).alloc (.cells #[.slice (some ⟨be, 0, none⟩) 4 4, .slice (some ⟨kt, 0, none⟩) 1 1] 34)) w.heap.size #[.string ⟨#[]⟩, .slice (some ⟨bn, 0, none⟩) 4 4, .slice (some ⟨bl, 0, none⟩) 1 1, .slice none 0 0, .slice none 0 0, .slice none 0 0, .slice none 0 0, .slice none 0 0, .slice none 0 0, .slice none 0 0] 32) := ⟨(by (repeat (first | with_reducible exact heap_alloc_new _ _ | with_reducible exact heap_alloc2_new _ _ _ | with_reducible exact blk_at3 _ _ _ _ | with_reducible exact blk_at4 _ _ _ _ _ | refine blk_alloc ?_ _)))⟩
  have BC : Aside0 (Blk ((w.alloc (.cells #[.string ⟨#[]⟩, .slice (some ⟨bn, 0, none⟩) 4 4, .slice (some ⟨bl, 0, none⟩) 1 1, .slice none 0 0, .slice none 0 0, .slice none 0 0, .slice none 0 0, .slice none 0 0, .slice none 0 0, .slice none 0 0] 32)).alloc (.cells #[.slice (some ⟨be, 0, none⟩) 4 4, .slice (some ⟨kt, 0, none⟩) 1 1] 34)) (w.heap.size + 1) #[.slice (some ⟨be, 0, none⟩) 4 4, .slice (some ⟨kt, 0, none⟩) 1 1] 34) := ⟨(by (repeat (first | with_reducible exact heap_alloc_new _ _ | with_reducible exact heap_alloc2_new _ _ _ | with_reducible exact blk_at3 _ _ _ _ | with_reducible exact blk_at4 _ _ _ _ _ | refine blk_alloc ?_ _)))⟩
  replace HB := Aside0.mk (below_step HB.out hb)
  replace HU := Aside0.mk (HU.out.below hb)
  replace HC := Aside0.mk (HC.out.below hb)
  replace BD := Aside0.mk (blk_below BD.out hb)
  clear hb
  generalize ((w.alloc (.cells #[.string ⟨#[]⟩, .slice (some ⟨bn, 0, none⟩) 4 4, .slice (some ⟨bl, 0, none⟩) 1 1, .slice none 0 0, .slice none 0 0, .slice none 0 0, .slice none 0 0, .slice none 0 0, .slice none 0 0, .slice none 0 0] 32)).alloc (.cells #[.slice (some ⟨be, 0, none⟩) 4 4, .slice (some ⟨kt, 0, none⟩) 1 1] 34)) = Wa at HU HC HB BD BU BC ⊢
  have HNa : Aside0 (w.heap.size ≤ Wa.heap.size) := ⟨HB.out.size⟩
  obtain ⟨hN, hL, h0, h1, h1', h2, hln, hln'⟩ := HU.out.reads
  obtain ⟨lbn, lbl, ln0, ln1, ln2, lln⟩ := HU.out.lts
  have lbnA : ∀ k, bn < Wa.heap.size + k := fun k => by omega
  have lbnB : ∀ k j, bn < Wa.heap.size + k + j := fun k j => by omega
  have lblA : ∀ k, bl < Wa.heap.size + k := fun k => by omega
  have lblB : ∀ k j, bl < Wa.heap.size + k + j := fun k j => by omega
  have ln0A : ∀ k, n0 < Wa.heap.size + k := fun k => by omega
  have ln0B : ∀ k j, n0 < Wa.heap.size + k + j := fun k j => by omega
  have ln1A : ∀ k, n1 < Wa.heap.size + k := fun k => by omega
  have ln1B : ∀ k j, n1 < Wa.heap.size + k + j := fun k j => by omega
  have ln2A : ∀ k, n2 < Wa.heap.size + k := fun k => by omega
  have ln2B : ∀ k j, n2 < Wa.heap.size + k + j := fun k j => by omega
  have llnA : ∀ k, ln < Wa.heap.size + k := fun k => by omega
  have llnB : ∀ k j, ln < Wa.heap.size + k + j := fun k j => by omega
  obtain ⟨hE, q0, q1, q1', q2, q3, qt⟩ := HC.out.reads
  obtain ⟨lbe, lk0, lk1, lk2, lk3, lkt⟩ := HC.out.lts
  have lbeA : ∀ k, be < Wa.heap.size + k := fun k => by omega
  have lbeB : ∀ k j, be < Wa.heap.size + k + j := fun k j => by omega
  have lk0A : ∀ k, k0 < Wa.heap.size + k := fun k => by omega
  have lk0B : ∀ k j, k0 < Wa.heap.size + k + j := fun k j => by omega
  have lk1A : ∀ k, k1 < Wa.heap.size + k := fun k => by omega
  have lk1B : ∀ k j, k1 < Wa.heap.size + k + j := fun k j => by omega
  have lk2A : ∀ k, k2 < Wa.heap.size + k := fun k => by omega
  have lk2B : ∀ k j, k2 < Wa.heap.size + k + j := fun k j => by omega
  have lk3A : ∀ k, k3 < Wa.heap.size + k := fun k => by omega
  have lk3B : ∀ k j, k3 < Wa.heap.size + k + j := fun k j => by omega
  have lktA : ∀ k, kt < Wa.heap.size + k := fun k => by omega
  have lktB : ∀ k j, kt < Wa.heap.size + k + j := fun k j => by omega
  have hBD : ∀ i, Wa.cell? ⟨dd, i, none⟩ = (#[.bool false, .bool false, .bool true, .bool false] : Array Value)[i]? := fun i => blk_cell BD.out i
  have ltBD := blk_lt BD.out
  have ltBDA : ∀ k, dd < Wa.heap.size + k := fun k => by omega
  have ltBDB : ∀ k j, dd < Wa.heap.size + k + j := fun k j => by omega
  have hBU : ∀ i, Wa.cell? ⟨w.heap.size, i, none⟩ = (#[.string ⟨#[]⟩, .slice (some ⟨bn, 0, none⟩) 4 4, .slice (some ⟨bl, 0, none⟩) 1 1, .slice none 0 0, .slice none 0 0, .slice none 0 0, .slice none 0 0, .slice none 0 0, .slice none 0 0, .slice none 0 0] : Array Value)[i]? := fun i => blk_cell BU.out i
  have ltBU := blk_lt BU.out
  have ltBUA : ∀ k, w.heap.size < Wa.heap.size + k := fun k => by omega
  have ltBUB : ∀ k j, w.heap.size < Wa.heap.size + k + j := fun k j => by omega
  have hBC : ∀ i, Wa.cell? ⟨(w.heap.size + 1), i, none⟩ = (#[.slice (some ⟨be, 0, none⟩) 4 4, .slice (some ⟨kt, 0, none⟩) 1 1] : Array Value)[i]? := fun i => blk_cell BC.out i
  have ltBC := blk_lt BC.out
  have ltBCA : ∀ k, (w.heap.size + 1) < Wa.heap.size + k := fun k => by omega
  have ltBCB : ∀ k j, (w.heap.size + 1) < Wa.heap.size + k + j := fun k j => by omega
  go_cut [8, 9] from 17 to 24 (fun a b wx => ∃ bo br, a = .slice (some ⟨bo, 0, none⟩) 1 1 ∧ b = .slice (some ⟨br, 0, none⟩) 1 1 ∧ Blk wx bo #[.int .i64 0] 3 ∧ Blk wx br #[.slice none 0 0] 58 ∧ Wa.heap.size ≤ bo ∧ Wa.heap.size ≤ br ∧ Below Wa.heap.size Wa wx)
  case first =>
    go_region
    all_goals
      go_wp2_with fail
      go_meet
      exact ⟨_, _, rfl, rfl, by first | with_reducible exact blkd (blk_alloc (heap_alloc_new Wa _) _) | with_reducible exact blkd (heap_alloc2_new Wa _ _), by first | with_reducible exact blkd (blk_alloc (heap_alloc_new Wa _) _) | with_reducible exact blkd (heap_alloc2_new Wa _ _), by omega, by omega, below_drew1 (below_alloc (below_alloc (Below.refl _ _) _) _)⟩
  obtain ⟨bo, br, rfl, rfl, hbo, hbr, hbo0, hbr0, hb⟩ := hcut
  obtain ⟨W1, hww⟩ : ∃ x, x = wc := ⟨_, rfl⟩
  subst hww
  clear hm3 hm5
  have BO := Aside0.mk hbo
  have BR := Aside0.mk hbr
  have HBO := Aside0.mk hbo0
  have HBR := Aside0.mk hbr0
  clear hbo hbr hbo0 hbr0
  clear hN hL h0 h1 h1' h2 hln hln' lbn lbl ln0 ln1 ln2 lln lbnA lbnB lblA lblB ln0A ln0B ln1A ln1B ln2A ln2B llnA llnB hE q0 q1 q1' q2 q3 qt lbe lk0 lk1 lk2 lk3 lkt lbeA lbeB lk0A lk0B lk1A lk1B lk2A lk2B lk3A lk3B lktA lktB hBD ltBD ltBDA ltBDB hBU ltBU ltBUA ltBUB hBC ltBC ltBCA ltBCB
  replace HB := Aside0.mk (below_step HB.out hb)
  replace HU := Aside0.mk (HU.out.below hb)
  replace HC := Aside0.mk (HC.out.below hb)
  replace BD := Aside0.mk (blk_below BD.out hb)
  replace BU := Aside0.mk (blk_below BU.out hb)
  replace BC := Aside0.mk (blk_below BC.out hb)
  clear hb
  obtain ⟨hN, hL, h0, h1, h1', h2, hln, hln'⟩ := HU.out.reads
  obtain ⟨lbn, lbl, ln0, ln1, ln2, lln⟩ := HU.out.lts
  have lbnA : ∀ k, bn < W1.heap.size + k := fun k => by omega
  have lbnB : ∀ k j, bn < W1.heap.size + k + j := fun k j => by omega
  have lblA : ∀ k, bl < W1.heap.size + k := fun k => by omega
  have lblB : ∀ k j, bl < W1.heap.size + k + j := fun k j => by omega
  have ln0A : ∀ k, n0 < W1.heap.size + k := fun k => by omega
  have ln0B : ∀ k j, n0 < W1.heap.size + k + j := fun k j => by omega
  have ln1A : ∀ k, n1 < W1.heap.size + k := fun k => by omega
  have ln1B : ∀ k j, n1 < W1.heap.size + k + j := fun k j => by omega
  have ln2A : ∀ k, n2 < W1.heap.size + k := fun k => by omega
  have ln2B : ∀ k j, n2 < W1.heap.size + k + j := fun k j => by omega
  have llnA : ∀ k, ln < W1.heap.size + k := fun k => by omega
  have llnB : ∀ k j, ln < W1.heap.size + k + j := fun k j => by omega
  obtain ⟨hE, q0, q1, q1', q2, q3, qt⟩ := HC.out.reads
  obtain ⟨lbe, lk0, lk1, lk2, lk3, lkt⟩ := HC.out.lts
  have lbeA : ∀ k, be < W1.heap.size + k := fun k => by omega
  have lbeB : ∀ k j, be < W1.heap.size + k + j := fun k j => by omega
  have lk0A : ∀ k, k0 < W1.heap.size + k := fun k => by omega
  have lk0B : ∀ k j, k0 < W1.heap.size + k + j := fun k j => by omega
  have lk1A : ∀ k, k1 < W1.heap.size + k := fun k => by omega
  have lk1B : ∀ k j, k1 < W1.heap.size + k + j := fun k j => by omega
  have lk2A : ∀ k, k2 < W1.heap.size + k := fun k => by omega
  have lk2B : ∀ k j, k2 < W1.heap.size + k + j := fun k j => by omega
  have lk3A : ∀ k, k3 < W1.heap.size + k := fun k => by omega
  have lk3B : ∀ k j, k3 < W1.heap.size + k + j := fun k j => by omega
  have lktA : ∀ k, kt < W1.heap.size + k := fun k => by omega
  have lktB : ∀ k j, kt < W1.heap.size + k + j := fun k j => by omega
  have hBD : ∀ i, W1.cell? ⟨dd, i, none⟩ = (#[.bool false, .bool false, .bool true, .bool false] : Array Value)[i]? := fun i => blk_cell BD.out i
  have ltBD := blk_lt BD.out
  have ltBDA : ∀ k, dd < W1.heap.size + k := fun k => by omega
  have ltBDB : ∀ k j, dd < W1.heap.size + k + j := fun k j => by omega
  have hBU : ∀ i, W1.cell? ⟨w.heap.size, i, none⟩ = (#[.string ⟨#[]⟩, .slice (some ⟨bn, 0, none⟩) 4 4, .slice (some ⟨bl, 0, none⟩) 1 1, .slice none 0 0, .slice none 0 0, .slice none 0 0, .slice none 0 0, .slice none 0 0, .slice none 0 0, .slice none 0 0] : Array Value)[i]? := fun i => blk_cell BU.out i
  have ltBU := blk_lt BU.out
  have ltBUA : ∀ k, w.heap.size < W1.heap.size + k := fun k => by omega
  have ltBUB : ∀ k j, w.heap.size < W1.heap.size + k + j := fun k j => by omega
  have hBC : ∀ i, W1.cell? ⟨(w.heap.size + 1), i, none⟩ = (#[.slice (some ⟨be, 0, none⟩) 4 4, .slice (some ⟨kt, 0, none⟩) 1 1] : Array Value)[i]? := fun i => blk_cell BC.out i
  have ltBC := blk_lt BC.out
  have ltBCA : ∀ k, (w.heap.size + 1) < W1.heap.size + k := fun k => by omega
  have ltBCB : ∀ k j, (w.heap.size + 1) < W1.heap.size + k + j := fun k j => by omega
  have hBO : ∀ i, W1.cell? ⟨bo, i, none⟩ = (#[.int .i64 0] : Array Value)[i]? := fun i => blk_cell BO.out i
  have ltBO := blk_lt BO.out
  have ltBOA : ∀ k, bo < W1.heap.size + k := fun k => by omega
  have ltBOB : ∀ k j, bo < W1.heap.size + k + j := fun k j => by omega
  have fzBO := fun j => blk_frozen BO.out j
  have hBR : ∀ i, W1.cell? ⟨br, i, none⟩ = (#[.slice none 0 0] : Array Value)[i]? := fun i => blk_cell BR.out i
  have ltBR := blk_lt BR.out
  have ltBRA : ∀ k, br < W1.heap.size + k := fun k => by omega
  have ltBRB : ∀ k j, br < W1.heap.size + k + j := fun k j => by omega
  have fzBR := fun j => blk_frozen BR.out j
  go_wp2_with fail
  clear hN hL h0 h1 h1' h2 hln hln' lbn lbl ln0 ln1 ln2 lln lbnA lbnB lblA lblB ln0A ln0B ln1A ln1B ln2A ln2B llnA llnB hE q0 q1 q1' q2 q3 qt lbe lk0 lk1 lk2 lk3 lkt lbeA lbeB lk0A lk0B lk1A lk1B lk2A lk2B lk3A lk3B lktA lktB hBD ltBD ltBDA ltBDB hBU ltBU ltBUA ltBUB hBC ltBC ltBCA ltBCB hBO ltBO ltBOA ltBOB fzBO hBR ltBR ltBRA ltBRB fzBR
  refine (gone_calls bn bl n0 n1 n2 ln mx _ HU.out dd false false true false BD.out).mono ?_
  rintro e w2 ⟨B, rfl, hB0, hR, hb⟩
  replace HB := Aside0.mk (below_step HB.out hb)
  replace HU := Aside0.mk (HU.out.below hb)
  replace HC := Aside0.mk (HC.out.below hb)
  replace BD := Aside0.mk (blk_below BD.out hb)
  replace BU := Aside0.mk (blk_below BU.out hb)
  replace BC := Aside0.mk (blk_below BC.out hb)
  replace BO := Aside0.mk (blk_below BO.out hb)
  replace BR := Aside0.mk (blk_below BR.out hb)
  clear hb
  have BB := Aside0.mk hR
  clear hR hB0
  obtain ⟨hN, hL, h0, h1, h1', h2, hln, hln'⟩ := HU.out.reads
  obtain ⟨lbn, lbl, ln0, ln1, ln2, lln⟩ := HU.out.lts
  have lbnA : ∀ k, bn < w2.heap.size + k := fun k => by omega
  have lbnB : ∀ k j, bn < w2.heap.size + k + j := fun k j => by omega
  have lblA : ∀ k, bl < w2.heap.size + k := fun k => by omega
  have lblB : ∀ k j, bl < w2.heap.size + k + j := fun k j => by omega
  have ln0A : ∀ k, n0 < w2.heap.size + k := fun k => by omega
  have ln0B : ∀ k j, n0 < w2.heap.size + k + j := fun k j => by omega
  have ln1A : ∀ k, n1 < w2.heap.size + k := fun k => by omega
  have ln1B : ∀ k j, n1 < w2.heap.size + k + j := fun k j => by omega
  have ln2A : ∀ k, n2 < w2.heap.size + k := fun k => by omega
  have ln2B : ∀ k j, n2 < w2.heap.size + k + j := fun k j => by omega
  have llnA : ∀ k, ln < w2.heap.size + k := fun k => by omega
  have llnB : ∀ k j, ln < w2.heap.size + k + j := fun k j => by omega
  obtain ⟨hE, q0, q1, q1', q2, q3, qt⟩ := HC.out.reads
  obtain ⟨lbe, lk0, lk1, lk2, lk3, lkt⟩ := HC.out.lts
  have lbeA : ∀ k, be < w2.heap.size + k := fun k => by omega
  have lbeB : ∀ k j, be < w2.heap.size + k + j := fun k j => by omega
  have lk0A : ∀ k, k0 < w2.heap.size + k := fun k => by omega
  have lk0B : ∀ k j, k0 < w2.heap.size + k + j := fun k j => by omega
  have lk1A : ∀ k, k1 < w2.heap.size + k := fun k => by omega
  have lk1B : ∀ k j, k1 < w2.heap.size + k + j := fun k j => by omega
  have lk2A : ∀ k, k2 < w2.heap.size + k := fun k => by omega
  have lk2B : ∀ k j, k2 < w2.heap.size + k + j := fun k j => by omega
  have lk3A : ∀ k, k3 < w2.heap.size + k := fun k => by omega
  have lk3B : ∀ k j, k3 < w2.heap.size + k + j := fun k j => by omega
  have lktA : ∀ k, kt < w2.heap.size + k := fun k => by omega
  have lktB : ∀ k j, kt < w2.heap.size + k + j := fun k j => by omega
  have hBD : ∀ i, w2.cell? ⟨dd, i, none⟩ = (#[.bool false, .bool false, .bool true, .bool false] : Array Value)[i]? := fun i => blk_cell BD.out i
  have ltBD := blk_lt BD.out
  have ltBDA : ∀ k, dd < w2.heap.size + k := fun k => by omega
  have ltBDB : ∀ k j, dd < w2.heap.size + k + j := fun k j => by omega
  have hBU : ∀ i, w2.cell? ⟨w.heap.size, i, none⟩ = (#[.string ⟨#[]⟩, .slice (some ⟨bn, 0, none⟩) 4 4, .slice (some ⟨bl, 0, none⟩) 1 1, .slice none 0 0, .slice none 0 0, .slice none 0 0, .slice none 0 0, .slice none 0 0, .slice none 0 0, .slice none 0 0] : Array Value)[i]? := fun i => blk_cell BU.out i
  have ltBU := blk_lt BU.out
  have ltBUA : ∀ k, w.heap.size < w2.heap.size + k := fun k => by omega
  have ltBUB : ∀ k j, w.heap.size < w2.heap.size + k + j := fun k j => by omega
  have hBC : ∀ i, w2.cell? ⟨(w.heap.size + 1), i, none⟩ = (#[.slice (some ⟨be, 0, none⟩) 4 4, .slice (some ⟨kt, 0, none⟩) 1 1] : Array Value)[i]? := fun i => blk_cell BC.out i
  have ltBC := blk_lt BC.out
  have ltBCA : ∀ k, (w.heap.size + 1) < w2.heap.size + k := fun k => by omega
  have ltBCB : ∀ k j, (w.heap.size + 1) < w2.heap.size + k + j := fun k j => by omega
  have hBO : ∀ i, w2.cell? ⟨bo, i, none⟩ = (#[.int .i64 0] : Array Value)[i]? := fun i => blk_cell BO.out i
  have ltBO := blk_lt BO.out
  have ltBOA : ∀ k, bo < w2.heap.size + k := fun k => by omega
  have ltBOB : ∀ k j, bo < w2.heap.size + k + j := fun k j => by omega
  have fzBO := fun j => blk_frozen BO.out j
  have hBR : ∀ i, w2.cell? ⟨br, i, none⟩ = (#[.slice none 0 0] : Array Value)[i]? := fun i => blk_cell BR.out i
  have ltBR := blk_lt BR.out
  have ltBRA : ∀ k, br < w2.heap.size + k := fun k => by omega
  have ltBRB : ∀ k j, br < w2.heap.size + k + j := fun k j => by omega
  have fzBR := fun j => blk_frozen BR.out j
  have hBB : ∀ i, w2.cell? ⟨B, i, none⟩ = (#[.bool false, .bool false, .bool true, .bool false] : Array Value)[i]? := fun i => blk_cell BB.out i
  have ltBB := blk_lt BB.out
  have ltBBA : ∀ k, B < w2.heap.size + k := fun k => by omega
  have ltBBB : ∀ k j, B < w2.heap.size + k + j := fun k j => by omega
  go_wp2_with fail
  refine wp_loop_rounds 6 ?_
  rw [rounds_succ]
  go_upto_region 8 with (fail)
  clear hN hL h0 h1 h1' h2 hln hln' lbn lbl ln0 ln1 ln2 lln lbnA lbnB lblA lblB ln0A ln0B ln1A ln1B ln2A ln2B llnA llnB hE q0 q1 q1' q2 q3 qt lbe lk0 lk1 lk2 lk3 lkt lbeA lbeB lk0A lk0B lk1A lk1B lk2A lk2B lk3A lk3B lktA lktB hBD ltBD ltBDA ltBDB hBU ltBU ltBUA ltBUB hBC ltBC ltBCA ltBCB hBO ltBO ltBOA ltBOB fzBO hBR ltBR ltBRA ltBRB fzBR hBB ltBB ltBBA ltBBB
  have hb : Below w2.heap.size w2 (w2.alloc (.cells #[.int .i64 1, .int .i64 0, .slice (some ⟨ln, 0, none⟩) 2 2, .int .i64 (-1), .int .i64 mx] 38)) := (by repeat (first | with_reducible exact Below.refl _ _ | apply below_alloc | apply pw_below_drewN | apply below_drew1))
  have BL : Aside0 (Blk (w2.alloc (.cells #[.int .i64 1, .int .i64 0, .slice (some ⟨ln, 0, none⟩) 2 2, .int .i64 (-1), .int .i64 mx] 38)) w2.heap.size #[.int .i64 1, .int .i64 0, .slice (some ⟨ln, 0, none⟩) 2 2, .int .i64 (-1), .int .i64 mx] 38) := ⟨(by (repeat (first | with_reducible exact heap_alloc_new _ _ | with_reducible exact heap_alloc2_new _ _ _ | with_reducible exact blk_at3 _ _ _ _ | with_reducible exact blk_at4 _ _ _ _ _ | refine blk_alloc ?_ _)))⟩
  replace HB := Aside0.mk (below_step HB.out hb)
  replace HU := Aside0.mk (HU.out.below hb)
  replace HC := Aside0.mk (HC.out.below hb)
  replace BD := Aside0.mk (blk_below BD.out hb)
  replace BU := Aside0.mk (blk_below BU.out hb)
  replace BC := Aside0.mk (blk_below BC.out hb)
  replace BO := Aside0.mk (blk_below BO.out hb)
  replace BR := Aside0.mk (blk_below BR.out hb)
  replace BB := Aside0.mk (blk_below BB.out hb)
  clear hb
  generalize (w2.alloc (.cells #[.int .i64 1, .int .i64 0, .slice (some ⟨ln, 0, none⟩) 2 2, .int .i64 (-1), .int .i64 mx] 38)) = Wb at HU HC HB BD BU BC BO BR BB BL ⊢
  obtain ⟨lp, HLP⟩ : ∃ b, Aside0 (b = w2.heap.size) := ⟨_, ⟨rfl⟩⟩
  rw [← HLP.out] at BL ⊢
  obtain ⟨hN, hL, h0, h1, h1', h2, hln, hln'⟩ := HU.out.reads
  obtain ⟨lbn, lbl, ln0, ln1, ln2, lln⟩ := HU.out.lts
  have lbnA : ∀ k, bn < Wb.heap.size + k := fun k => by omega
  have lbnB : ∀ k j, bn < Wb.heap.size + k + j := fun k j => by omega
  have lblA : ∀ k, bl < Wb.heap.size + k := fun k => by omega
  have lblB : ∀ k j, bl < Wb.heap.size + k + j := fun k j => by omega
  have ln0A : ∀ k, n0 < Wb.heap.size + k := fun k => by omega
  have ln0B : ∀ k j, n0 < Wb.heap.size + k + j := fun k j => by omega
  have ln1A : ∀ k, n1 < Wb.heap.size + k := fun k => by omega
  have ln1B : ∀ k j, n1 < Wb.heap.size + k + j := fun k j => by omega
  have ln2A : ∀ k, n2 < Wb.heap.size + k := fun k => by omega
  have ln2B : ∀ k j, n2 < Wb.heap.size + k + j := fun k j => by omega
  have llnA : ∀ k, ln < Wb.heap.size + k := fun k => by omega
  have llnB : ∀ k j, ln < Wb.heap.size + k + j := fun k j => by omega
  obtain ⟨hE, q0, q1, q1', q2, q3, qt⟩ := HC.out.reads
  obtain ⟨lbe, lk0, lk1, lk2, lk3, lkt⟩ := HC.out.lts
  have lbeA : ∀ k, be < Wb.heap.size + k := fun k => by omega
  have lbeB : ∀ k j, be < Wb.heap.size + k + j := fun k j => by omega
  have lk0A : ∀ k, k0 < Wb.heap.size + k := fun k => by omega
  have lk0B : ∀ k j, k0 < Wb.heap.size + k + j := fun k j => by omega
  have lk1A : ∀ k, k1 < Wb.heap.size + k := fun k => by omega
  have lk1B : ∀ k j, k1 < Wb.heap.size + k + j := fun k j => by omega
  have lk2A : ∀ k, k2 < Wb.heap.size + k := fun k => by omega
  have lk2B : ∀ k j, k2 < Wb.heap.size + k + j := fun k j => by omega
  have lk3A : ∀ k, k3 < Wb.heap.size + k := fun k => by omega
  have lk3B : ∀ k j, k3 < Wb.heap.size + k + j := fun k j => by omega
  have lktA : ∀ k, kt < Wb.heap.size + k := fun k => by omega
  have lktB : ∀ k j, kt < Wb.heap.size + k + j := fun k j => by omega
  have hBD : ∀ i, Wb.cell? ⟨dd, i, none⟩ = (#[.bool false, .bool false, .bool true, .bool false] : Array Value)[i]? := fun i => blk_cell BD.out i
  have ltBD := blk_lt BD.out
  have ltBDA : ∀ k, dd < Wb.heap.size + k := fun k => by omega
  have ltBDB : ∀ k j, dd < Wb.heap.size + k + j := fun k j => by omega
  have hBU : ∀ i, Wb.cell? ⟨w.heap.size, i, none⟩ = (#[.string ⟨#[]⟩, .slice (some ⟨bn, 0, none⟩) 4 4, .slice (some ⟨bl, 0, none⟩) 1 1, .slice none 0 0, .slice none 0 0, .slice none 0 0, .slice none 0 0, .slice none 0 0, .slice none 0 0, .slice none 0 0] : Array Value)[i]? := fun i => blk_cell BU.out i
  have ltBU := blk_lt BU.out
  have ltBUA : ∀ k, w.heap.size < Wb.heap.size + k := fun k => by omega
  have ltBUB : ∀ k j, w.heap.size < Wb.heap.size + k + j := fun k j => by omega
  have hBC : ∀ i, Wb.cell? ⟨(w.heap.size + 1), i, none⟩ = (#[.slice (some ⟨be, 0, none⟩) 4 4, .slice (some ⟨kt, 0, none⟩) 1 1] : Array Value)[i]? := fun i => blk_cell BC.out i
  have ltBC := blk_lt BC.out
  have ltBCA : ∀ k, (w.heap.size + 1) < Wb.heap.size + k := fun k => by omega
  have ltBCB : ∀ k j, (w.heap.size + 1) < Wb.heap.size + k + j := fun k j => by omega
  have hBO : ∀ i, Wb.cell? ⟨bo, i, none⟩ = (#[.int .i64 0] : Array Value)[i]? := fun i => blk_cell BO.out i
  have ltBO := blk_lt BO.out
  have ltBOA : ∀ k, bo < Wb.heap.size + k := fun k => by omega
  have ltBOB : ∀ k j, bo < Wb.heap.size + k + j := fun k j => by omega
  have fzBO := fun j => blk_frozen BO.out j
  have hBR : ∀ i, Wb.cell? ⟨br, i, none⟩ = (#[.slice none 0 0] : Array Value)[i]? := fun i => blk_cell BR.out i
  have ltBR := blk_lt BR.out
  have ltBRA : ∀ k, br < Wb.heap.size + k := fun k => by omega
  have ltBRB : ∀ k j, br < Wb.heap.size + k + j := fun k j => by omega
  have fzBR := fun j => blk_frozen BR.out j
  have hBB : ∀ i, Wb.cell? ⟨B, i, none⟩ = (#[.bool false, .bool false, .bool true, .bool false] : Array Value)[i]? := fun i => blk_cell BB.out i
  have ltBB := blk_lt BB.out
  have ltBBA : ∀ k, B < Wb.heap.size + k := fun k => by omega
  have ltBBB : ∀ k j, B < Wb.heap.size + k + j := fun k j => by omega
  have hBL : ∀ i, Wb.cell? ⟨lp, i, none⟩ = (#[.int .i64 1, .int .i64 0, .slice (some ⟨ln, 0, none⟩) 2 2, .int .i64 (-1), .int .i64 mx] : Array Value)[i]? := fun i => blk_cell BL.out i
  have ltBL := blk_lt BL.out
  have ltBLA : ∀ k, lp < Wb.heap.size + k := fun k => by omega
  have ltBLB : ∀ k j, lp < Wb.heap.size + k + j := fun k j => by omega
  have hs0 : (∀ i, Wb.drew.cell? ⟨w.heap.size, i, none⟩ = (#[.string ⟨#[]⟩, .slice (some ⟨bn, 0, none⟩) 4 4, .slice (some ⟨bl, 0, none⟩) 1 1, .slice none 0 0, .slice none 0 0, .slice none 0 0, .slice none 0 0, .slice none 0 0, .slice none 0 0, .slice none 0 0] : Array Value)[i]?) ∧ (∀ i, Wb.drew.cell? ⟨w.heap.size + 1, i, none⟩ = (#[.slice (some ⟨be, 0, none⟩) 4 4, .slice (some ⟨kt, 0, none⟩) 1 1] : Array Value)[i]?) ∧ Wb.drew.cell? ⟨lp, 2, none⟩ = some (.slice (some ⟨ln, 0, none⟩) 2 2) := ⟨fun i => blk_cell (blkd BU.out) i, fun i => blk_cell (blkd BC.out) i, blk_cell (blkd BL.out) 2⟩
  go_region_held3 (fun w' => (∀ i, w'.cell? ⟨w.heap.size, i, none⟩ = (#[.string ⟨#[]⟩, .slice (some ⟨bn, 0, none⟩) 4 4, .slice (some ⟨bl, 0, none⟩) 1 1, .slice none 0 0, .slice none 0 0, .slice none 0 0, .slice none 0 0, .slice none 0 0, .slice none 0 0, .slice none 0 0] : Array Value)[i]?) ∧ (∀ i, w'.cell? ⟨w.heap.size + 1, i, none⟩ = (#[.slice (some ⟨be, 0, none⟩) 4 4, .slice (some ⟨kt, 0, none⟩) 1 1] : Array Value)[i]?) ∧ w'.cell? ⟨lp, 2, none⟩ = some (.slice (some ⟨ln, 0, none⟩) 2 2)) (first | exact hs0 | assumption) (first | (go_at_call 13; refine (edges_calls bn bl n0 n1 n2 ln mx _ (HU.out.below (by repeat (first | with_reducible exact Below.refl _ _ | apply below_alloc | apply pw_below_drewN | apply below_drew1))) be k0 k1 k2 k3 kt cb ch cl cd ce ct (HC.out.below (by repeat (first | with_reducible exact Below.refl _ _ | apply below_alloc | apply pw_below_drewN | apply below_drew1))) HLOW.out bo 0 (blk_below BO.out (by repeat (first | with_reducible exact Below.refl _ _ | apply below_alloc | apply pw_below_drewN | apply below_drew1))) (by decide) (by decide)).mono ?_; rintro e w4 ⟨g1, c1, rfl, ho, hb⟩; simp only [EL, Int.sub_zero, Int.mul_zero, Int.add_zero] at ho; have HE1 := Aside0.mk ho; have HBn : Aside0 (Below Wb.heap.size Wb w4) := ⟨below_step (by repeat (first | with_reducible exact Below.refl _ _ | apply below_alloc | apply pw_below_drewN | apply below_drew1)) hb⟩; replace hb := HBn.out; clear HBn; replace HB := Aside0.mk (below_step HB.out hb); replace HU := Aside0.mk (HU.out.below hb); replace HC := Aside0.mk (HC.out.below hb); replace BD := Aside0.mk (blk_below BD.out hb); replace BU := Aside0.mk (blk_below BU.out hb); replace BC := Aside0.mk (blk_below BC.out hb); replace BO := Aside0.mk (blk_below BO.out hb); replace BR := Aside0.mk (blk_below BR.out hb); replace BB := Aside0.mk (blk_below BB.out hb); replace BL := Aside0.mk (blk_below BL.out hb); clear hb; have hs : (∀ i, w4.cell? ⟨w.heap.size, i, none⟩ = (#[.string ⟨#[]⟩, .slice (some ⟨bn, 0, none⟩) 4 4, .slice (some ⟨bl, 0, none⟩) 1 1, .slice none 0 0, .slice none 0 0, .slice none 0 0, .slice none 0 0, .slice none 0 0, .slice none 0 0, .slice none 0 0] : Array Value)[i]?) ∧ (∀ i, w4.cell? ⟨w.heap.size + 1, i, none⟩ = (#[.slice (some ⟨be, 0, none⟩) 4 4, .slice (some ⟨kt, 0, none⟩) 1 1] : Array Value)[i]?) ∧ w4.cell? ⟨lp, 2, none⟩ = some (.slice (some ⟨ln, 0, none⟩) 2 2) := ⟨fun i => blk_cell BU.out i, fun i => blk_cell BC.out i, blk_cell BL.out 2⟩) | (go_at_call 25; refine (call_opn_two _ g1 c1 B (cb + ct) ch cl cd _ HE1.out BB.out).mono ?_; rintro e w5 ⟨g2, c2, rfl, ho, hb⟩; have HE2 := Aside0.mk ho; replace HB := Aside0.mk (below_step HB.out hb); replace HU := Aside0.mk (HU.out.below hb); replace HC := Aside0.mk (HC.out.below hb); replace BD := Aside0.mk (blk_below BD.out hb); replace BU := Aside0.mk (blk_below BU.out hb); replace BC := Aside0.mk (blk_below BC.out hb); replace BO := Aside0.mk (blk_below BO.out hb); replace BR := Aside0.mk (blk_below BR.out hb); replace BB := Aside0.mk (blk_below BB.out hb); replace BL := Aside0.mk (blk_below BL.out hb); clear hb; have hs : (∀ i, w5.cell? ⟨w.heap.size, i, none⟩ = (#[.string ⟨#[]⟩, .slice (some ⟨bn, 0, none⟩) 4 4, .slice (some ⟨bl, 0, none⟩) 1 1, .slice none 0 0, .slice none 0 0, .slice none 0 0, .slice none 0 0, .slice none 0 0, .slice none 0 0, .slice none 0 0] : Array Value)[i]?) ∧ (∀ i, w5.cell? ⟨w.heap.size + 1, i, none⟩ = (#[.slice (some ⟨be, 0, none⟩) 4 4, .slice (some ⟨kt, 0, none⟩) 1 1] : Array Value)[i]?) ∧ w5.cell? ⟨lp, 2, none⟩ = some (.slice (some ⟨ln, 0, none⟩) 2 2) := ⟨fun i => blk_cell BU.out i, fun i => blk_cell BC.out i, blk_cell BL.out 2⟩) | (go_at_call 24; refine (call_ins_two _ g2 c2 ln (cb + ct) cl _ HE2.out HU.out.2.2.2.2.2).mono ?_; rintro e w6 ⟨g3, c3, rfl, ho, hb⟩; have HE3 := Aside0.mk ho; replace HB := Aside0.mk (below_step HB.out hb); replace HU := Aside0.mk (HU.out.below hb); replace HC := Aside0.mk (HC.out.below hb); replace BD := Aside0.mk (blk_below BD.out hb); replace BU := Aside0.mk (blk_below BU.out hb); replace BC := Aside0.mk (blk_below BC.out hb); replace BO := Aside0.mk (blk_below BO.out hb); replace BR := Aside0.mk (blk_below BR.out hb); replace BB := Aside0.mk (blk_below BB.out hb); replace BL := Aside0.mk (blk_below BL.out hb); clear hb; have hs : (∀ i, w6.cell? ⟨w.heap.size, i, none⟩ = (#[.string ⟨#[]⟩, .slice (some ⟨bn, 0, none⟩) 4 4, .slice (some ⟨bl, 0, none⟩) 1 1, .slice none 0 0, .slice none 0 0, .slice none 0 0, .slice none 0 0, .slice none 0 0, .slice none 0 0, .slice none 0 0] : Array Value)[i]?) ∧ (∀ i, w6.cell? ⟨w.heap.size + 1, i, none⟩ = (#[.slice (some ⟨be, 0, none⟩) 4 4, .slice (some ⟨kt, 0, none⟩) 1 1] : Array Value)[i]?) ∧ w6.cell? ⟨lp, 2, none⟩ = some (.slice (some ⟨ln, 0, none⟩) 2 2) := ⟨fun i => blk_cell BU.out i, fun i => blk_cell BC.out i, blk_cell BL.out 2⟩))
  clear hs0
  clear hN hL h0 h1 h1' h2 hln hln' lbn lbl ln0 ln1 ln2 lln lbnA lbnB lblA lblB ln0A ln0B ln1A ln1B ln2A ln2B llnA llnB hE q0 q1 q1' q2 q3 qt lbe lk0 lk1 lk2 lk3 lkt lbeA lbeB lk0A lk0B lk1A lk1B lk2A lk2B lk3A lk3B lktA lktB hBD ltBD ltBDA ltBDB hBU ltBU ltBUA ltBUB hBC ltBC ltBCA ltBCB hBO ltBO ltBOA ltBOB fzBO hBR ltBR ltBRA ltBRB fzBR hBB ltBB ltBBA ltBBB hBL ltBL ltBLA ltBLB
  obtain ⟨hN, hL, h0, h1, h1', h2, hln, hln'⟩ := HU.out.reads
  obtain ⟨lbn, lbl, ln0, ln1, ln2, lln⟩ := HU.out.lts
  have lbnA : ∀ k, bn < w6.heap.size + k := fun k => by omega
  have lbnB : ∀ k j, bn < w6.heap.size + k + j := fun k j => by omega
  have lblA : ∀ k, bl < w6.heap.size + k := fun k => by omega
  have lblB : ∀ k j, bl < w6.heap.size + k + j := fun k j => by omega
  have ln0A : ∀ k, n0 < w6.heap.size + k := fun k => by omega
  have ln0B : ∀ k j, n0 < w6.heap.size + k + j := fun k j => by omega
  have ln1A : ∀ k, n1 < w6.heap.size + k := fun k => by omega
  have ln1B : ∀ k j, n1 < w6.heap.size + k + j := fun k j => by omega
  have ln2A : ∀ k, n2 < w6.heap.size + k := fun k => by omega
  have ln2B : ∀ k j, n2 < w6.heap.size + k + j := fun k j => by omega
  have llnA : ∀ k, ln < w6.heap.size + k := fun k => by omega
  have llnB : ∀ k j, ln < w6.heap.size + k + j := fun k j => by omega
  obtain ⟨hE, q0, q1, q1', q2, q3, qt⟩ := HC.out.reads
  obtain ⟨lbe, lk0, lk1, lk2, lk3, lkt⟩ := HC.out.lts
  have lbeA : ∀ k, be < w6.heap.size + k := fun k => by omega
  have lbeB : ∀ k j, be < w6.heap.size + k + j := fun k j => by omega
  have lk0A : ∀ k, k0 < w6.heap.size + k := fun k => by omega
  have lk0B : ∀ k j, k0 < w6.heap.size + k + j := fun k j => by omega
  have lk1A : ∀ k, k1 < w6.heap.size + k := fun k => by omega
  have lk1B : ∀ k j, k1 < w6.heap.size + k + j := fun k j => by omega
  have lk2A : ∀ k, k2 < w6.heap.size + k := fun k => by omega
  have lk2B : ∀ k j, k2 < w6.heap.size + k + j := fun k j => by omega
  have lk3A : ∀ k, k3 < w6.heap.size + k := fun k => by omega
  have lk3B : ∀ k j, k3 < w6.heap.size + k + j := fun k j => by omega
  have lktA : ∀ k, kt < w6.heap.size + k := fun k => by omega
  have lktB : ∀ k j, kt < w6.heap.size + k + j := fun k j => by omega
  have hBD : ∀ i, w6.cell? ⟨dd, i, none⟩ = (#[.bool false, .bool false, .bool true, .bool false] : Array Value)[i]? := fun i => blk_cell BD.out i
  have ltBD := blk_lt BD.out
  have ltBDA : ∀ k, dd < w6.heap.size + k := fun k => by omega
  have ltBDB : ∀ k j, dd < w6.heap.size + k + j := fun k j => by omega
  have hBU : ∀ i, w6.cell? ⟨w.heap.size, i, none⟩ = (#[.string ⟨#[]⟩, .slice (some ⟨bn, 0, none⟩) 4 4, .slice (some ⟨bl, 0, none⟩) 1 1, .slice none 0 0, .slice none 0 0, .slice none 0 0, .slice none 0 0, .slice none 0 0, .slice none 0 0, .slice none 0 0] : Array Value)[i]? := fun i => blk_cell BU.out i
  have ltBU := blk_lt BU.out
  have ltBUA : ∀ k, w.heap.size < w6.heap.size + k := fun k => by omega
  have ltBUB : ∀ k j, w.heap.size < w6.heap.size + k + j := fun k j => by omega
  have hBC : ∀ i, w6.cell? ⟨(w.heap.size + 1), i, none⟩ = (#[.slice (some ⟨be, 0, none⟩) 4 4, .slice (some ⟨kt, 0, none⟩) 1 1] : Array Value)[i]? := fun i => blk_cell BC.out i
  have ltBC := blk_lt BC.out
  have ltBCA : ∀ k, (w.heap.size + 1) < w6.heap.size + k := fun k => by omega
  have ltBCB : ∀ k j, (w.heap.size + 1) < w6.heap.size + k + j := fun k j => by omega
  have hBO : ∀ i, w6.cell? ⟨bo, i, none⟩ = (#[.int .i64 0] : Array Value)[i]? := fun i => blk_cell BO.out i
  have ltBO := blk_lt BO.out
  have ltBOA : ∀ k, bo < w6.heap.size + k := fun k => by omega
  have ltBOB : ∀ k j, bo < w6.heap.size + k + j := fun k j => by omega
  have fzBO := fun j => blk_frozen BO.out j
  have hBR : ∀ i, w6.cell? ⟨br, i, none⟩ = (#[.slice none 0 0] : Array Value)[i]? := fun i => blk_cell BR.out i
  have ltBR := blk_lt BR.out
  have ltBRA : ∀ k, br < w6.heap.size + k := fun k => by omega
  have ltBRB : ∀ k j, br < w6.heap.size + k + j := fun k j => by omega
  have fzBR := fun j => blk_frozen BR.out j
  have hBB : ∀ i, w6.cell? ⟨B, i, none⟩ = (#[.bool false, .bool false, .bool true, .bool false] : Array Value)[i]? := fun i => blk_cell BB.out i
  have ltBB := blk_lt BB.out
  have ltBBA : ∀ k, B < w6.heap.size + k := fun k => by omega
  have ltBBB : ∀ k j, B < w6.heap.size + k + j := fun k j => by omega
  have hBL : ∀ i, w6.cell? ⟨lp, i, none⟩ = (#[.int .i64 1, .int .i64 0, .slice (some ⟨ln, 0, none⟩) 2 2, .int .i64 (-1), .int .i64 mx] : Array Value)[i]? := fun i => blk_cell BL.out i
  have ltBL := blk_lt BL.out
  have ltBLA : ∀ k, lp < w6.heap.size + k := fun k => by omega
  have ltBLB : ∀ k j, lp < w6.heap.size + k + j := fun k j => by omega
  go_wp2_with fail
  clear hN hL h0 h1 h1' h2 hln hln' lbn lbl ln0 ln1 ln2 lln lbnA lbnB lblA lblB ln0A ln0B ln1A ln1B ln2A ln2B llnA llnB hE q0 q1 q1' q2 q3 qt lbe lk0 lk1 lk2 lk3 lkt lbeA lbeB lk0A lk0B lk1A lk1B lk2A lk2B lk3A lk3B lktA lktB hBD ltBD ltBDA ltBDB hBU ltBU ltBUA ltBUB hBC ltBC ltBCA ltBCB hBO ltBO ltBOA ltBOB fzBO hBR ltBR ltBRA ltBRB fzBR hBB ltBB ltBBA ltBBB hBL ltBL ltBLA ltBLB
  refine (spread_calls _ g3 c3 1 _ _ _ _ _ _ (SpV.v_one) HE3.out).mono ?_
  rintro e w7 ⟨bk, bs, bb, rfl, hbs, hK, hS, hY, hb⟩
  have HE4 := Aside0.mk (pw_own_below HE3.out hb)
  replace HB := Aside0.mk (below_step HB.out hb)
  replace HU := Aside0.mk (HU.out.below hb)
  replace HC := Aside0.mk (HC.out.below hb)
  replace BD := Aside0.mk (blk_below BD.out hb)
  replace BU := Aside0.mk (blk_below BU.out hb)
  replace BC := Aside0.mk (blk_below BC.out hb)
  replace BO := Aside0.mk (blk_below BO.out hb)
  replace BR := Aside0.mk (blk_below BR.out hb)
  replace BB := Aside0.mk (blk_below BB.out hb)
  replace BL := Aside0.mk (blk_below BL.out hb)
  clear hb
  have BK := Aside0.mk hK
  have BS := Aside0.mk hS
  have BY := Aside0.mk hY
  clear hK hS hY hbs
  obtain ⟨hN, hL, h0, h1, h1', h2, hln, hln'⟩ := HU.out.reads
  obtain ⟨lbn, lbl, ln0, ln1, ln2, lln⟩ := HU.out.lts
  have lbnA : ∀ k, bn < w7.heap.size + k := fun k => by omega
  have lbnB : ∀ k j, bn < w7.heap.size + k + j := fun k j => by omega
  have lblA : ∀ k, bl < w7.heap.size + k := fun k => by omega
  have lblB : ∀ k j, bl < w7.heap.size + k + j := fun k j => by omega
  have ln0A : ∀ k, n0 < w7.heap.size + k := fun k => by omega
  have ln0B : ∀ k j, n0 < w7.heap.size + k + j := fun k j => by omega
  have ln1A : ∀ k, n1 < w7.heap.size + k := fun k => by omega
  have ln1B : ∀ k j, n1 < w7.heap.size + k + j := fun k j => by omega
  have ln2A : ∀ k, n2 < w7.heap.size + k := fun k => by omega
  have ln2B : ∀ k j, n2 < w7.heap.size + k + j := fun k j => by omega
  have llnA : ∀ k, ln < w7.heap.size + k := fun k => by omega
  have llnB : ∀ k j, ln < w7.heap.size + k + j := fun k j => by omega
  obtain ⟨hE, q0, q1, q1', q2, q3, qt⟩ := HC.out.reads
  obtain ⟨lbe, lk0, lk1, lk2, lk3, lkt⟩ := HC.out.lts
  have lbeA : ∀ k, be < w7.heap.size + k := fun k => by omega
  have lbeB : ∀ k j, be < w7.heap.size + k + j := fun k j => by omega
  have lk0A : ∀ k, k0 < w7.heap.size + k := fun k => by omega
  have lk0B : ∀ k j, k0 < w7.heap.size + k + j := fun k j => by omega
  have lk1A : ∀ k, k1 < w7.heap.size + k := fun k => by omega
  have lk1B : ∀ k j, k1 < w7.heap.size + k + j := fun k j => by omega
  have lk2A : ∀ k, k2 < w7.heap.size + k := fun k => by omega
  have lk2B : ∀ k j, k2 < w7.heap.size + k + j := fun k j => by omega
  have lk3A : ∀ k, k3 < w7.heap.size + k := fun k => by omega
  have lk3B : ∀ k j, k3 < w7.heap.size + k + j := fun k j => by omega
  have lktA : ∀ k, kt < w7.heap.size + k := fun k => by omega
  have lktB : ∀ k j, kt < w7.heap.size + k + j := fun k j => by omega
  have hBD : ∀ i, w7.cell? ⟨dd, i, none⟩ = (#[.bool false, .bool false, .bool true, .bool false] : Array Value)[i]? := fun i => blk_cell BD.out i
  have ltBD := blk_lt BD.out
  have ltBDA : ∀ k, dd < w7.heap.size + k := fun k => by omega
  have ltBDB : ∀ k j, dd < w7.heap.size + k + j := fun k j => by omega
  have hBU : ∀ i, w7.cell? ⟨w.heap.size, i, none⟩ = (#[.string ⟨#[]⟩, .slice (some ⟨bn, 0, none⟩) 4 4, .slice (some ⟨bl, 0, none⟩) 1 1, .slice none 0 0, .slice none 0 0, .slice none 0 0, .slice none 0 0, .slice none 0 0, .slice none 0 0, .slice none 0 0] : Array Value)[i]? := fun i => blk_cell BU.out i
  have ltBU := blk_lt BU.out
  have ltBUA : ∀ k, w.heap.size < w7.heap.size + k := fun k => by omega
  have ltBUB : ∀ k j, w.heap.size < w7.heap.size + k + j := fun k j => by omega
  have hBC : ∀ i, w7.cell? ⟨(w.heap.size + 1), i, none⟩ = (#[.slice (some ⟨be, 0, none⟩) 4 4, .slice (some ⟨kt, 0, none⟩) 1 1] : Array Value)[i]? := fun i => blk_cell BC.out i
  have ltBC := blk_lt BC.out
  have ltBCA : ∀ k, (w.heap.size + 1) < w7.heap.size + k := fun k => by omega
  have ltBCB : ∀ k j, (w.heap.size + 1) < w7.heap.size + k + j := fun k j => by omega
  have hBO : ∀ i, w7.cell? ⟨bo, i, none⟩ = (#[.int .i64 0] : Array Value)[i]? := fun i => blk_cell BO.out i
  have ltBO := blk_lt BO.out
  have ltBOA : ∀ k, bo < w7.heap.size + k := fun k => by omega
  have ltBOB : ∀ k j, bo < w7.heap.size + k + j := fun k j => by omega
  have fzBO := fun j => blk_frozen BO.out j
  have hBR : ∀ i, w7.cell? ⟨br, i, none⟩ = (#[.slice none 0 0] : Array Value)[i]? := fun i => blk_cell BR.out i
  have ltBR := blk_lt BR.out
  have ltBRA : ∀ k, br < w7.heap.size + k := fun k => by omega
  have ltBRB : ∀ k j, br < w7.heap.size + k + j := fun k j => by omega
  have fzBR := fun j => blk_frozen BR.out j
  have hBB : ∀ i, w7.cell? ⟨B, i, none⟩ = (#[.bool false, .bool false, .bool true, .bool false] : Array Value)[i]? := fun i => blk_cell BB.out i
  have ltBB := blk_lt BB.out
  have ltBBA : ∀ k, B < w7.heap.size + k := fun k => by omega
  have ltBBB : ∀ k j, B < w7.heap.size + k + j := fun k j => by omega
  have hBL : ∀ i, w7.cell? ⟨lp, i, none⟩ = (#[.int .i64 1, .int .i64 0, .slice (some ⟨ln, 0, none⟩) 2 2, .int .i64 (-1), .int .i64 mx] : Array Value)[i]? := fun i => blk_cell BL.out i
  have ltBL := blk_lt BL.out
  have ltBLA : ∀ k, lp < w7.heap.size + k := fun k => by omega
  have ltBLB : ∀ k j, lp < w7.heap.size + k + j := fun k j => by omega
  go_wp2_with fail
  refine wp_loop_rounds 6 ?_
  rw [rounds_succ]
  go_wp2_with fail
  rw [rounds_succ]
  go_wp2_with fail
  go_ret2
  exact ⟨bo, br, rfl, blk_below BO.out (by repeat (first | with_reducible exact Below.refl _ _ | apply below_alloc | apply pw_below_drewN | apply below_drew1)), below_step HB.out (by repeat (first | with_reducible exact Below.refl _ _ | apply below_alloc | apply pw_below_drewN | apply below_drew1))⟩
set_option maxHeartbeats 8000000 in
set_option maxRecDepth 100000 in
theorem prices_none (bn bl n0 n1 n2 ln : Nat) (mx : Int) (w : World) (hU : UnitW w bn bl n0 n1 n2 ln mx) (be k0 k1 k2 k3 kt : Nat) (cb ch cl cd ce ct : Int) (hC : CostW w be k0 k1 k2 k3 kt cb ch cl cd ce ct) (hlow : Low cb ch cl cd ce ct mx) (dd : Nat) (hD : Blk w dd #[.bool false, .bool false, .bool false, .bool false] 4) :
    Calls Try.prog 11 #[UV bn bl, CV be kt, .slice (some ⟨dd, 0, none⟩) 4 4] w fun e w' => ∃ bo br, e = .returned (.tuple #[.slice (some ⟨bo, 0, none⟩) 1 1, .slice (some ⟨br, 0, none⟩) 1 1]) ∧ Blk w' bo #[.int .i64 (ch + cd)] 3 ∧ Below w.heap.size w w' := by
  have hu32 := Try.underlying32
  have hu34 := Try.underlying34
  have hu38 := Try.underlying38
  have hu46 := Try.underlying46
  have HLOW := Aside0.mk hlow
  have BD := Aside0.mk hD
  clear hD
  obtain ⟨⟨gcb, gcb'⟩, ⟨gch, gch'⟩, ⟨gcl, gcl'⟩, ⟨gcd, gcd'⟩, ⟨gce, gce'⟩, ⟨gct, gct'⟩, gmx, gmx'⟩ := hlow
  have hm3 : ∀ W, (Instr.makeSlice 29 (.int .i64 1) (.int .i64 1)).run Try.prog W = .ok (.slice (some ⟨W.heap.size, 0, none⟩) 1 1) (W.alloc (.cells #[.int .i64 0] 3)) := fun W => by kernel_rfl
  have hm5 : ∀ W, (Instr.makeSlice 53 (.int .i64 1) (.int .i64 1)).run Try.prog W = .ok (.slice (some ⟨W.heap.size, 0, none⟩) 1 1) (W.alloc (.cells #[.slice none 0 0] 58)) := fun W => by kernel_rfl
  obtain ⟨i74, hi, hz⟩ := Option.map_eq_some_iff.1 info74
  simp only [Prod.mk.injEq] at hz
  obtain ⟨hza, hzb, hzc⟩ := hz
  have HI := Aside0.mk hi
  have HZA := Aside0.mk hza
  have HZB := Aside0.mk hzb
  have HZC := Aside0.mk hzc
  clear hi hza hzb hzc
  have HU := Aside0.mk hU
  have HC := Aside0.mk hC
  have HB : Aside0 (Below w.heap.size w w) := ⟨Below.refl _ _⟩
  clear hU hC
  go_enter Try.func11, Try.ntmps11
  go_upto_region 1 with (fail)
  have hb : Below w.heap.size w ((w.alloc (.cells #[.string ⟨#[]⟩, .slice (some ⟨bn, 0, none⟩) 4 4, .slice (some ⟨bl, 0, none⟩) 1 1, .slice none 0 0, .slice none 0 0, .slice none 0 0, .slice none 0 0, .slice none 0 0, .slice none 0 0, .slice none 0 0] 32)).alloc (.cells #[.slice (some ⟨be, 0, none⟩) 4 4, .slice (some ⟨kt, 0, none⟩) 1 1] 34)) := (by repeat (first | with_reducible exact Below.refl _ _ | apply below_alloc | apply pw_below_drewN | apply below_drew1))
  have BU : Aside0 (Blk ((w.alloc (.cells #[.string ⟨#[]⟩, .slice (some ⟨bn, 0, none⟩) 4 4, .slice (some ⟨bl, 0, none⟩) 1 1, .slice none 0 0, .slice none 0 0, .slice none 0 0, .slice none 0 0, .slice none 0 0, .slice none 0 0, .slice none 0 0] 32)).alloc (.cells #[.slice (some ⟨be, 0, none⟩) 4 4, .slice (some ⟨kt, 0, none⟩) 1 1] 34)) w.heap.size #[.string ⟨#[]⟩, .slice (some ⟨bn, 0, none⟩) 4 4, .slice (some ⟨bl, 0, none⟩) 1 1, .slice none 0 0, .slice none 0 0, .slice none 0 0, .slice none 0 0, .slice none 0 0, .slice none 0 0, .slice none 0 0] 32) := ⟨(by (repeat (first | with_reducible exact heap_alloc_new _ _ | with_reducible exact heap_alloc2_new _ _ _ | with_reducible exact blk_at3 _ _ _ _ | with_reducible exact blk_at4 _ _ _ _ _ | refine blk_alloc ?_ _)))⟩
  have BC : Aside0 (Blk ((w.alloc (.cells #[.string ⟨#[]⟩, .slice (some ⟨bn, 0, none⟩) 4 4, .slice (some ⟨bl, 0, none⟩) 1 1, .slice none 0 0, .slice none 0 0, .slice none 0 0, .slice none 0 0, .slice none 0 0, .slice none 0 0, .slice none 0 0] 32)).alloc (.cells #[.slice (some ⟨be, 0, none⟩) 4 4, .slice (some ⟨kt, 0, none⟩) 1 1] 34)) (w.heap.size + 1) #[.slice (some ⟨be, 0, none⟩) 4 4, .slice (some ⟨kt, 0, none⟩) 1 1] 34) := ⟨(by (repeat (first | with_reducible exact heap_alloc_new _ _ | with_reducible exact heap_alloc2_new _ _ _ | with_reducible exact blk_at3 _ _ _ _ | with_reducible exact blk_at4 _ _ _ _ _ | refine blk_alloc ?_ _)))⟩
  replace HB := Aside0.mk (below_step HB.out hb)
  replace HU := Aside0.mk (HU.out.below hb)
  replace HC := Aside0.mk (HC.out.below hb)
  replace BD := Aside0.mk (blk_below BD.out hb)
  clear hb
  generalize ((w.alloc (.cells #[.string ⟨#[]⟩, .slice (some ⟨bn, 0, none⟩) 4 4, .slice (some ⟨bl, 0, none⟩) 1 1, .slice none 0 0, .slice none 0 0, .slice none 0 0, .slice none 0 0, .slice none 0 0, .slice none 0 0, .slice none 0 0] 32)).alloc (.cells #[.slice (some ⟨be, 0, none⟩) 4 4, .slice (some ⟨kt, 0, none⟩) 1 1] 34)) = Wa at HU HC HB BD BU BC ⊢
  have HNa : Aside0 (w.heap.size ≤ Wa.heap.size) := ⟨HB.out.size⟩
  obtain ⟨hN, hL, h0, h1, h1', h2, hln, hln'⟩ := HU.out.reads
  obtain ⟨lbn, lbl, ln0, ln1, ln2, lln⟩ := HU.out.lts
  have lbnA : ∀ k, bn < Wa.heap.size + k := fun k => by omega
  have lbnB : ∀ k j, bn < Wa.heap.size + k + j := fun k j => by omega
  have lblA : ∀ k, bl < Wa.heap.size + k := fun k => by omega
  have lblB : ∀ k j, bl < Wa.heap.size + k + j := fun k j => by omega
  have ln0A : ∀ k, n0 < Wa.heap.size + k := fun k => by omega
  have ln0B : ∀ k j, n0 < Wa.heap.size + k + j := fun k j => by omega
  have ln1A : ∀ k, n1 < Wa.heap.size + k := fun k => by omega
  have ln1B : ∀ k j, n1 < Wa.heap.size + k + j := fun k j => by omega
  have ln2A : ∀ k, n2 < Wa.heap.size + k := fun k => by omega
  have ln2B : ∀ k j, n2 < Wa.heap.size + k + j := fun k j => by omega
  have llnA : ∀ k, ln < Wa.heap.size + k := fun k => by omega
  have llnB : ∀ k j, ln < Wa.heap.size + k + j := fun k j => by omega
  obtain ⟨hE, q0, q1, q1', q2, q3, qt⟩ := HC.out.reads
  obtain ⟨lbe, lk0, lk1, lk2, lk3, lkt⟩ := HC.out.lts
  have lbeA : ∀ k, be < Wa.heap.size + k := fun k => by omega
  have lbeB : ∀ k j, be < Wa.heap.size + k + j := fun k j => by omega
  have lk0A : ∀ k, k0 < Wa.heap.size + k := fun k => by omega
  have lk0B : ∀ k j, k0 < Wa.heap.size + k + j := fun k j => by omega
  have lk1A : ∀ k, k1 < Wa.heap.size + k := fun k => by omega
  have lk1B : ∀ k j, k1 < Wa.heap.size + k + j := fun k j => by omega
  have lk2A : ∀ k, k2 < Wa.heap.size + k := fun k => by omega
  have lk2B : ∀ k j, k2 < Wa.heap.size + k + j := fun k j => by omega
  have lk3A : ∀ k, k3 < Wa.heap.size + k := fun k => by omega
  have lk3B : ∀ k j, k3 < Wa.heap.size + k + j := fun k j => by omega
  have lktA : ∀ k, kt < Wa.heap.size + k := fun k => by omega
  have lktB : ∀ k j, kt < Wa.heap.size + k + j := fun k j => by omega
  have hBD : ∀ i, Wa.cell? ⟨dd, i, none⟩ = (#[.bool false, .bool false, .bool false, .bool false] : Array Value)[i]? := fun i => blk_cell BD.out i
  have ltBD := blk_lt BD.out
  have ltBDA : ∀ k, dd < Wa.heap.size + k := fun k => by omega
  have ltBDB : ∀ k j, dd < Wa.heap.size + k + j := fun k j => by omega
  have hBU : ∀ i, Wa.cell? ⟨w.heap.size, i, none⟩ = (#[.string ⟨#[]⟩, .slice (some ⟨bn, 0, none⟩) 4 4, .slice (some ⟨bl, 0, none⟩) 1 1, .slice none 0 0, .slice none 0 0, .slice none 0 0, .slice none 0 0, .slice none 0 0, .slice none 0 0, .slice none 0 0] : Array Value)[i]? := fun i => blk_cell BU.out i
  have ltBU := blk_lt BU.out
  have ltBUA : ∀ k, w.heap.size < Wa.heap.size + k := fun k => by omega
  have ltBUB : ∀ k j, w.heap.size < Wa.heap.size + k + j := fun k j => by omega
  have hBC : ∀ i, Wa.cell? ⟨(w.heap.size + 1), i, none⟩ = (#[.slice (some ⟨be, 0, none⟩) 4 4, .slice (some ⟨kt, 0, none⟩) 1 1] : Array Value)[i]? := fun i => blk_cell BC.out i
  have ltBC := blk_lt BC.out
  have ltBCA : ∀ k, (w.heap.size + 1) < Wa.heap.size + k := fun k => by omega
  have ltBCB : ∀ k j, (w.heap.size + 1) < Wa.heap.size + k + j := fun k j => by omega
  go_cut [8, 9] from 17 to 24 (fun a b wx => ∃ bo br, a = .slice (some ⟨bo, 0, none⟩) 1 1 ∧ b = .slice (some ⟨br, 0, none⟩) 1 1 ∧ Blk wx bo #[.int .i64 0] 3 ∧ Blk wx br #[.slice none 0 0] 58 ∧ Wa.heap.size ≤ bo ∧ Wa.heap.size ≤ br ∧ Below Wa.heap.size Wa wx)
  case first =>
    go_region
    all_goals
      go_wp2_with fail
      go_meet
      exact ⟨_, _, rfl, rfl, by first | with_reducible exact blkd (blk_alloc (heap_alloc_new Wa _) _) | with_reducible exact blkd (heap_alloc2_new Wa _ _), by first | with_reducible exact blkd (blk_alloc (heap_alloc_new Wa _) _) | with_reducible exact blkd (heap_alloc2_new Wa _ _), by omega, by omega, below_drew1 (below_alloc (below_alloc (Below.refl _ _) _) _)⟩
  obtain ⟨bo, br, rfl, rfl, hbo, hbr, hbo0, hbr0, hb⟩ := hcut
  obtain ⟨W1, hww⟩ : ∃ x, x = wc := ⟨_, rfl⟩
  subst hww
  clear hm3 hm5
  have BO := Aside0.mk hbo
  have BR := Aside0.mk hbr
  have HBO := Aside0.mk hbo0
  have HBR := Aside0.mk hbr0
  clear hbo hbr hbo0 hbr0
  clear hN hL h0 h1 h1' h2 hln hln' lbn lbl ln0 ln1 ln2 lln lbnA lbnB lblA lblB ln0A ln0B ln1A ln1B ln2A ln2B llnA llnB hE q0 q1 q1' q2 q3 qt lbe lk0 lk1 lk2 lk3 lkt lbeA lbeB lk0A lk0B lk1A lk1B lk2A lk2B lk3A lk3B lktA lktB hBD ltBD ltBDA ltBDB hBU ltBU ltBUA ltBUB hBC ltBC ltBCA ltBCB
  replace HB := Aside0.mk (below_step HB.out hb)
  replace HU := Aside0.mk (HU.out.below hb)
  replace HC := Aside0.mk (HC.out.below hb)
  replace BD := Aside0.mk (blk_below BD.out hb)
  replace BU := Aside0.mk (blk_below BU.out hb)
  replace BC := Aside0.mk (blk_below BC.out hb)
  clear hb
  obtain ⟨hN, hL, h0, h1, h1', h2, hln, hln'⟩ := HU.out.reads
  obtain ⟨lbn, lbl, ln0, ln1, ln2, lln⟩ := HU.out.lts
  have lbnA : ∀ k, bn < W1.heap.size + k := fun k => by omega
  have lbnB : ∀ k j, bn < W1.heap.size + k + j := fun k j => by omega
  have lblA : ∀ k, bl < W1.heap.size + k := fun k => by omega
  have lblB : ∀ k j, bl < W1.heap.size + k + j := fun k j => by omega
  have ln0A : ∀ k, n0 < W1.heap.size + k := fun k => by omega
  have ln0B : ∀ k j, n0 < W1.heap.size + k + j := fun k j => by omega
  have ln1A : ∀ k, n1 < W1.heap.size + k := fun k => by omega
  have ln1B : ∀ k j, n1 < W1.heap.size + k + j := fun k j => by omega
  have ln2A : ∀ k, n2 < W1.heap.size + k := fun k => by omega
  have ln2B : ∀ k j, n2 < W1.heap.size + k + j := fun k j => by omega
  have llnA : ∀ k, ln < W1.heap.size + k := fun k => by omega
  have llnB : ∀ k j, ln < W1.heap.size + k + j := fun k j => by omega
  obtain ⟨hE, q0, q1, q1', q2, q3, qt⟩ := HC.out.reads
  obtain ⟨lbe, lk0, lk1, lk2, lk3, lkt⟩ := HC.out.lts
  have lbeA : ∀ k, be < W1.heap.size + k := fun k => by omega
  have lbeB : ∀ k j, be < W1.heap.size + k + j := fun k j => by omega
  have lk0A : ∀ k, k0 < W1.heap.size + k := fun k => by omega
  have lk0B : ∀ k j, k0 < W1.heap.size + k + j := fun k j => by omega
  have lk1A : ∀ k, k1 < W1.heap.size + k := fun k => by omega
  have lk1B : ∀ k j, k1 < W1.heap.size + k + j := fun k j => by omega
  have lk2A : ∀ k, k2 < W1.heap.size + k := fun k => by omega
  have lk2B : ∀ k j, k2 < W1.heap.size + k + j := fun k j => by omega
  have lk3A : ∀ k, k3 < W1.heap.size + k := fun k => by omega
  have lk3B : ∀ k j, k3 < W1.heap.size + k + j := fun k j => by omega
  have lktA : ∀ k, kt < W1.heap.size + k := fun k => by omega
  have lktB : ∀ k j, kt < W1.heap.size + k + j := fun k j => by omega
  have hBD : ∀ i, W1.cell? ⟨dd, i, none⟩ = (#[.bool false, .bool false, .bool false, .bool false] : Array Value)[i]? := fun i => blk_cell BD.out i
  have ltBD := blk_lt BD.out
  have ltBDA : ∀ k, dd < W1.heap.size + k := fun k => by omega
  have ltBDB : ∀ k j, dd < W1.heap.size + k + j := fun k j => by omega
  have hBU : ∀ i, W1.cell? ⟨w.heap.size, i, none⟩ = (#[.string ⟨#[]⟩, .slice (some ⟨bn, 0, none⟩) 4 4, .slice (some ⟨bl, 0, none⟩) 1 1, .slice none 0 0, .slice none 0 0, .slice none 0 0, .slice none 0 0, .slice none 0 0, .slice none 0 0, .slice none 0 0] : Array Value)[i]? := fun i => blk_cell BU.out i
  have ltBU := blk_lt BU.out
  have ltBUA : ∀ k, w.heap.size < W1.heap.size + k := fun k => by omega
  have ltBUB : ∀ k j, w.heap.size < W1.heap.size + k + j := fun k j => by omega
  have hBC : ∀ i, W1.cell? ⟨(w.heap.size + 1), i, none⟩ = (#[.slice (some ⟨be, 0, none⟩) 4 4, .slice (some ⟨kt, 0, none⟩) 1 1] : Array Value)[i]? := fun i => blk_cell BC.out i
  have ltBC := blk_lt BC.out
  have ltBCA : ∀ k, (w.heap.size + 1) < W1.heap.size + k := fun k => by omega
  have ltBCB : ∀ k j, (w.heap.size + 1) < W1.heap.size + k + j := fun k j => by omega
  have hBO : ∀ i, W1.cell? ⟨bo, i, none⟩ = (#[.int .i64 0] : Array Value)[i]? := fun i => blk_cell BO.out i
  have ltBO := blk_lt BO.out
  have ltBOA : ∀ k, bo < W1.heap.size + k := fun k => by omega
  have ltBOB : ∀ k j, bo < W1.heap.size + k + j := fun k j => by omega
  have fzBO := fun j => blk_frozen BO.out j
  have hBR : ∀ i, W1.cell? ⟨br, i, none⟩ = (#[.slice none 0 0] : Array Value)[i]? := fun i => blk_cell BR.out i
  have ltBR := blk_lt BR.out
  have ltBRA : ∀ k, br < W1.heap.size + k := fun k => by omega
  have ltBRB : ∀ k j, br < W1.heap.size + k + j := fun k j => by omega
  have fzBR := fun j => blk_frozen BR.out j
  go_wp2_with fail
  clear hN hL h0 h1 h1' h2 hln hln' lbn lbl ln0 ln1 ln2 lln lbnA lbnB lblA lblB ln0A ln0B ln1A ln1B ln2A ln2B llnA llnB hE q0 q1 q1' q2 q3 qt lbe lk0 lk1 lk2 lk3 lkt lbeA lbeB lk0A lk0B lk1A lk1B lk2A lk2B lk3A lk3B lktA lktB hBD ltBD ltBDA ltBDB hBU ltBU ltBUA ltBUB hBC ltBC ltBCA ltBCB hBO ltBO ltBOA ltBOB fzBO hBR ltBR ltBRA ltBRB fzBR
  refine (gone_calls bn bl n0 n1 n2 ln mx _ HU.out dd false false false false BD.out).mono ?_
  rintro e w2 ⟨B, rfl, hB0, hR, hb⟩
  replace HB := Aside0.mk (below_step HB.out hb)
  replace HU := Aside0.mk (HU.out.below hb)
  replace HC := Aside0.mk (HC.out.below hb)
  replace BD := Aside0.mk (blk_below BD.out hb)
  replace BU := Aside0.mk (blk_below BU.out hb)
  replace BC := Aside0.mk (blk_below BC.out hb)
  replace BO := Aside0.mk (blk_below BO.out hb)
  replace BR := Aside0.mk (blk_below BR.out hb)
  clear hb
  have BB := Aside0.mk hR
  clear hR hB0
  obtain ⟨hN, hL, h0, h1, h1', h2, hln, hln'⟩ := HU.out.reads
  obtain ⟨lbn, lbl, ln0, ln1, ln2, lln⟩ := HU.out.lts
  have lbnA : ∀ k, bn < w2.heap.size + k := fun k => by omega
  have lbnB : ∀ k j, bn < w2.heap.size + k + j := fun k j => by omega
  have lblA : ∀ k, bl < w2.heap.size + k := fun k => by omega
  have lblB : ∀ k j, bl < w2.heap.size + k + j := fun k j => by omega
  have ln0A : ∀ k, n0 < w2.heap.size + k := fun k => by omega
  have ln0B : ∀ k j, n0 < w2.heap.size + k + j := fun k j => by omega
  have ln1A : ∀ k, n1 < w2.heap.size + k := fun k => by omega
  have ln1B : ∀ k j, n1 < w2.heap.size + k + j := fun k j => by omega
  have ln2A : ∀ k, n2 < w2.heap.size + k := fun k => by omega
  have ln2B : ∀ k j, n2 < w2.heap.size + k + j := fun k j => by omega
  have llnA : ∀ k, ln < w2.heap.size + k := fun k => by omega
  have llnB : ∀ k j, ln < w2.heap.size + k + j := fun k j => by omega
  obtain ⟨hE, q0, q1, q1', q2, q3, qt⟩ := HC.out.reads
  obtain ⟨lbe, lk0, lk1, lk2, lk3, lkt⟩ := HC.out.lts
  have lbeA : ∀ k, be < w2.heap.size + k := fun k => by omega
  have lbeB : ∀ k j, be < w2.heap.size + k + j := fun k j => by omega
  have lk0A : ∀ k, k0 < w2.heap.size + k := fun k => by omega
  have lk0B : ∀ k j, k0 < w2.heap.size + k + j := fun k j => by omega
  have lk1A : ∀ k, k1 < w2.heap.size + k := fun k => by omega
  have lk1B : ∀ k j, k1 < w2.heap.size + k + j := fun k j => by omega
  have lk2A : ∀ k, k2 < w2.heap.size + k := fun k => by omega
  have lk2B : ∀ k j, k2 < w2.heap.size + k + j := fun k j => by omega
  have lk3A : ∀ k, k3 < w2.heap.size + k := fun k => by omega
  have lk3B : ∀ k j, k3 < w2.heap.size + k + j := fun k j => by omega
  have lktA : ∀ k, kt < w2.heap.size + k := fun k => by omega
  have lktB : ∀ k j, kt < w2.heap.size + k + j := fun k j => by omega
  have hBD : ∀ i, w2.cell? ⟨dd, i, none⟩ = (#[.bool false, .bool false, .bool false, .bool false] : Array Value)[i]? := fun i => blk_cell BD.out i
  have ltBD := blk_lt BD.out
  have ltBDA : ∀ k, dd < w2.heap.size + k := fun k => by omega
  have ltBDB : ∀ k j, dd < w2.heap.size + k + j := fun k j => by omega
  have hBU : ∀ i, w2.cell? ⟨w.heap.size, i, none⟩ = (#[.string ⟨#[]⟩, .slice (some ⟨bn, 0, none⟩) 4 4, .slice (some ⟨bl, 0, none⟩) 1 1, .slice none 0 0, .slice none 0 0, .slice none 0 0, .slice none 0 0, .slice none 0 0, .slice none 0 0, .slice none 0 0] : Array Value)[i]? := fun i => blk_cell BU.out i
  have ltBU := blk_lt BU.out
  have ltBUA : ∀ k, w.heap.size < w2.heap.size + k := fun k => by omega
  have ltBUB : ∀ k j, w.heap.size < w2.heap.size + k + j := fun k j => by omega
  have hBC : ∀ i, w2.cell? ⟨(w.heap.size + 1), i, none⟩ = (#[.slice (some ⟨be, 0, none⟩) 4 4, .slice (some ⟨kt, 0, none⟩) 1 1] : Array Value)[i]? := fun i => blk_cell BC.out i
  have ltBC := blk_lt BC.out
  have ltBCA : ∀ k, (w.heap.size + 1) < w2.heap.size + k := fun k => by omega
  have ltBCB : ∀ k j, (w.heap.size + 1) < w2.heap.size + k + j := fun k j => by omega
  have hBO : ∀ i, w2.cell? ⟨bo, i, none⟩ = (#[.int .i64 0] : Array Value)[i]? := fun i => blk_cell BO.out i
  have ltBO := blk_lt BO.out
  have ltBOA : ∀ k, bo < w2.heap.size + k := fun k => by omega
  have ltBOB : ∀ k j, bo < w2.heap.size + k + j := fun k j => by omega
  have fzBO := fun j => blk_frozen BO.out j
  have hBR : ∀ i, w2.cell? ⟨br, i, none⟩ = (#[.slice none 0 0] : Array Value)[i]? := fun i => blk_cell BR.out i
  have ltBR := blk_lt BR.out
  have ltBRA : ∀ k, br < w2.heap.size + k := fun k => by omega
  have ltBRB : ∀ k j, br < w2.heap.size + k + j := fun k j => by omega
  have fzBR := fun j => blk_frozen BR.out j
  have hBB : ∀ i, w2.cell? ⟨B, i, none⟩ = (#[.bool false, .bool false, .bool false, .bool false] : Array Value)[i]? := fun i => blk_cell BB.out i
  have ltBB := blk_lt BB.out
  have ltBBA : ∀ k, B < w2.heap.size + k := fun k => by omega
  have ltBBB : ∀ k j, B < w2.heap.size + k + j := fun k j => by omega
  go_wp2_with fail
  refine wp_loop_rounds 6 ?_
  rw [rounds_succ]
  go_upto_region 8 with (fail)
  clear hN hL h0 h1 h1' h2 hln hln' lbn lbl ln0 ln1 ln2 lln lbnA lbnB lblA lblB ln0A ln0B ln1A ln1B ln2A ln2B llnA llnB hE q0 q1 q1' q2 q3 qt lbe lk0 lk1 lk2 lk3 lkt lbeA lbeB lk0A lk0B lk1A lk1B lk2A lk2B lk3A lk3B lktA lktB hBD ltBD ltBDA ltBDB hBU ltBU ltBUA ltBUB hBC ltBC ltBCA ltBCB hBO ltBO ltBOA ltBOB fzBO hBR ltBR ltBRA ltBRB fzBR hBB ltBB ltBBA ltBBB
  have hb : Below w2.heap.size w2 (w2.alloc (.cells #[.int .i64 1, .int .i64 0, .slice (some ⟨ln, 0, none⟩) 2 2, .int .i64 (-1), .int .i64 mx] 38)) := (by repeat (first | with_reducible exact Below.refl _ _ | apply below_alloc | apply pw_below_drewN | apply below_drew1))
  have BL : Aside0 (Blk (w2.alloc (.cells #[.int .i64 1, .int .i64 0, .slice (some ⟨ln, 0, none⟩) 2 2, .int .i64 (-1), .int .i64 mx] 38)) w2.heap.size #[.int .i64 1, .int .i64 0, .slice (some ⟨ln, 0, none⟩) 2 2, .int .i64 (-1), .int .i64 mx] 38) := ⟨(by (repeat (first | with_reducible exact heap_alloc_new _ _ | with_reducible exact heap_alloc2_new _ _ _ | with_reducible exact blk_at3 _ _ _ _ | with_reducible exact blk_at4 _ _ _ _ _ | refine blk_alloc ?_ _)))⟩
  replace HB := Aside0.mk (below_step HB.out hb)
  replace HU := Aside0.mk (HU.out.below hb)
  replace HC := Aside0.mk (HC.out.below hb)
  replace BD := Aside0.mk (blk_below BD.out hb)
  replace BU := Aside0.mk (blk_below BU.out hb)
  replace BC := Aside0.mk (blk_below BC.out hb)
  replace BO := Aside0.mk (blk_below BO.out hb)
  replace BR := Aside0.mk (blk_below BR.out hb)
  replace BB := Aside0.mk (blk_below BB.out hb)
  clear hb
  generalize (w2.alloc (.cells #[.int .i64 1, .int .i64 0, .slice (some ⟨ln, 0, none⟩) 2 2, .int .i64 (-1), .int .i64 mx] 38)) = Wb at HU HC HB BD BU BC BO BR BB BL ⊢
  obtain ⟨lp, HLP⟩ : ∃ b, Aside0 (b = w2.heap.size) := ⟨_, ⟨rfl⟩⟩
  rw [← HLP.out] at BL ⊢
  obtain ⟨hN, hL, h0, h1, h1', h2, hln, hln'⟩ := HU.out.reads
  obtain ⟨lbn, lbl, ln0, ln1, ln2, lln⟩ := HU.out.lts
  have lbnA : ∀ k, bn < Wb.heap.size + k := fun k => by omega
  have lbnB : ∀ k j, bn < Wb.heap.size + k + j := fun k j => by omega
  have lblA : ∀ k, bl < Wb.heap.size + k := fun k => by omega
  have lblB : ∀ k j, bl < Wb.heap.size + k + j := fun k j => by omega
  have ln0A : ∀ k, n0 < Wb.heap.size + k := fun k => by omega
  have ln0B : ∀ k j, n0 < Wb.heap.size + k + j := fun k j => by omega
  have ln1A : ∀ k, n1 < Wb.heap.size + k := fun k => by omega
  have ln1B : ∀ k j, n1 < Wb.heap.size + k + j := fun k j => by omega
  have ln2A : ∀ k, n2 < Wb.heap.size + k := fun k => by omega
  have ln2B : ∀ k j, n2 < Wb.heap.size + k + j := fun k j => by omega
  have llnA : ∀ k, ln < Wb.heap.size + k := fun k => by omega
  have llnB : ∀ k j, ln < Wb.heap.size + k + j := fun k j => by omega
  obtain ⟨hE, q0, q1, q1', q2, q3, qt⟩ := HC.out.reads
  obtain ⟨lbe, lk0, lk1, lk2, lk3, lkt⟩ := HC.out.lts
  have lbeA : ∀ k, be < Wb.heap.size + k := fun k => by omega
  have lbeB : ∀ k j, be < Wb.heap.size + k + j := fun k j => by omega
  have lk0A : ∀ k, k0 < Wb.heap.size + k := fun k => by omega
  have lk0B : ∀ k j, k0 < Wb.heap.size + k + j := fun k j => by omega
  have lk1A : ∀ k, k1 < Wb.heap.size + k := fun k => by omega
  have lk1B : ∀ k j, k1 < Wb.heap.size + k + j := fun k j => by omega
  have lk2A : ∀ k, k2 < Wb.heap.size + k := fun k => by omega
  have lk2B : ∀ k j, k2 < Wb.heap.size + k + j := fun k j => by omega
  have lk3A : ∀ k, k3 < Wb.heap.size + k := fun k => by omega
  have lk3B : ∀ k j, k3 < Wb.heap.size + k + j := fun k j => by omega
  have lktA : ∀ k, kt < Wb.heap.size + k := fun k => by omega
  have lktB : ∀ k j, kt < Wb.heap.size + k + j := fun k j => by omega
  have hBD : ∀ i, Wb.cell? ⟨dd, i, none⟩ = (#[.bool false, .bool false, .bool false, .bool false] : Array Value)[i]? := fun i => blk_cell BD.out i
  have ltBD := blk_lt BD.out
  have ltBDA : ∀ k, dd < Wb.heap.size + k := fun k => by omega
  have ltBDB : ∀ k j, dd < Wb.heap.size + k + j := fun k j => by omega
  have hBU : ∀ i, Wb.cell? ⟨w.heap.size, i, none⟩ = (#[.string ⟨#[]⟩, .slice (some ⟨bn, 0, none⟩) 4 4, .slice (some ⟨bl, 0, none⟩) 1 1, .slice none 0 0, .slice none 0 0, .slice none 0 0, .slice none 0 0, .slice none 0 0, .slice none 0 0, .slice none 0 0] : Array Value)[i]? := fun i => blk_cell BU.out i
  have ltBU := blk_lt BU.out
  have ltBUA : ∀ k, w.heap.size < Wb.heap.size + k := fun k => by omega
  have ltBUB : ∀ k j, w.heap.size < Wb.heap.size + k + j := fun k j => by omega
  have hBC : ∀ i, Wb.cell? ⟨(w.heap.size + 1), i, none⟩ = (#[.slice (some ⟨be, 0, none⟩) 4 4, .slice (some ⟨kt, 0, none⟩) 1 1] : Array Value)[i]? := fun i => blk_cell BC.out i
  have ltBC := blk_lt BC.out
  have ltBCA : ∀ k, (w.heap.size + 1) < Wb.heap.size + k := fun k => by omega
  have ltBCB : ∀ k j, (w.heap.size + 1) < Wb.heap.size + k + j := fun k j => by omega
  have hBO : ∀ i, Wb.cell? ⟨bo, i, none⟩ = (#[.int .i64 0] : Array Value)[i]? := fun i => blk_cell BO.out i
  have ltBO := blk_lt BO.out
  have ltBOA : ∀ k, bo < Wb.heap.size + k := fun k => by omega
  have ltBOB : ∀ k j, bo < Wb.heap.size + k + j := fun k j => by omega
  have fzBO := fun j => blk_frozen BO.out j
  have hBR : ∀ i, Wb.cell? ⟨br, i, none⟩ = (#[.slice none 0 0] : Array Value)[i]? := fun i => blk_cell BR.out i
  have ltBR := blk_lt BR.out
  have ltBRA : ∀ k, br < Wb.heap.size + k := fun k => by omega
  have ltBRB : ∀ k j, br < Wb.heap.size + k + j := fun k j => by omega
  have fzBR := fun j => blk_frozen BR.out j
  have hBB : ∀ i, Wb.cell? ⟨B, i, none⟩ = (#[.bool false, .bool false, .bool false, .bool false] : Array Value)[i]? := fun i => blk_cell BB.out i
  have ltBB := blk_lt BB.out
  have ltBBA : ∀ k, B < Wb.heap.size + k := fun k => by omega
  have ltBBB : ∀ k j, B < Wb.heap.size + k + j := fun k j => by omega
  have hBL : ∀ i, Wb.cell? ⟨lp, i, none⟩ = (#[.int .i64 1, .int .i64 0, .slice (some ⟨ln, 0, none⟩) 2 2, .int .i64 (-1), .int .i64 mx] : Array Value)[i]? := fun i => blk_cell BL.out i
  have ltBL := blk_lt BL.out
  have ltBLA : ∀ k, lp < Wb.heap.size + k := fun k => by omega
  have ltBLB : ∀ k j, lp < Wb.heap.size + k + j := fun k j => by omega
  have hs0 : (∀ i, Wb.drew.cell? ⟨w.heap.size, i, none⟩ = (#[.string ⟨#[]⟩, .slice (some ⟨bn, 0, none⟩) 4 4, .slice (some ⟨bl, 0, none⟩) 1 1, .slice none 0 0, .slice none 0 0, .slice none 0 0, .slice none 0 0, .slice none 0 0, .slice none 0 0, .slice none 0 0] : Array Value)[i]?) ∧ (∀ i, Wb.drew.cell? ⟨w.heap.size + 1, i, none⟩ = (#[.slice (some ⟨be, 0, none⟩) 4 4, .slice (some ⟨kt, 0, none⟩) 1 1] : Array Value)[i]?) ∧ Wb.drew.cell? ⟨lp, 2, none⟩ = some (.slice (some ⟨ln, 0, none⟩) 2 2) := ⟨fun i => blk_cell (blkd BU.out) i, fun i => blk_cell (blkd BC.out) i, blk_cell (blkd BL.out) 2⟩
  go_region_held3 (fun w' => (∀ i, w'.cell? ⟨w.heap.size, i, none⟩ = (#[.string ⟨#[]⟩, .slice (some ⟨bn, 0, none⟩) 4 4, .slice (some ⟨bl, 0, none⟩) 1 1, .slice none 0 0, .slice none 0 0, .slice none 0 0, .slice none 0 0, .slice none 0 0, .slice none 0 0, .slice none 0 0] : Array Value)[i]?) ∧ (∀ i, w'.cell? ⟨w.heap.size + 1, i, none⟩ = (#[.slice (some ⟨be, 0, none⟩) 4 4, .slice (some ⟨kt, 0, none⟩) 1 1] : Array Value)[i]?) ∧ w'.cell? ⟨lp, 2, none⟩ = some (.slice (some ⟨ln, 0, none⟩) 2 2)) (first | exact hs0 | assumption) (first | (go_at_call 13; refine (edges_calls bn bl n0 n1 n2 ln mx _ (HU.out.below (by repeat (first | with_reducible exact Below.refl _ _ | apply below_alloc | apply pw_below_drewN | apply below_drew1))) be k0 k1 k2 k3 kt cb ch cl cd ce ct (HC.out.below (by repeat (first | with_reducible exact Below.refl _ _ | apply below_alloc | apply pw_below_drewN | apply below_drew1))) HLOW.out bo 0 (blk_below BO.out (by repeat (first | with_reducible exact Below.refl _ _ | apply below_alloc | apply pw_below_drewN | apply below_drew1))) (by decide) (by decide)).mono ?_; rintro e w4 ⟨g1, c1, rfl, ho, hb⟩; simp only [EL, Int.sub_zero, Int.mul_zero, Int.add_zero] at ho; have HE1 := Aside0.mk ho; have HBn : Aside0 (Below Wb.heap.size Wb w4) := ⟨below_step (by repeat (first | with_reducible exact Below.refl _ _ | apply below_alloc | apply pw_below_drewN | apply below_drew1)) hb⟩; replace hb := HBn.out; clear HBn; replace HB := Aside0.mk (below_step HB.out hb); replace HU := Aside0.mk (HU.out.below hb); replace HC := Aside0.mk (HC.out.below hb); replace BD := Aside0.mk (blk_below BD.out hb); replace BU := Aside0.mk (blk_below BU.out hb); replace BC := Aside0.mk (blk_below BC.out hb); replace BO := Aside0.mk (blk_below BO.out hb); replace BR := Aside0.mk (blk_below BR.out hb); replace BB := Aside0.mk (blk_below BB.out hb); replace BL := Aside0.mk (blk_below BL.out hb); clear hb; have hs : (∀ i, w4.cell? ⟨w.heap.size, i, none⟩ = (#[.string ⟨#[]⟩, .slice (some ⟨bn, 0, none⟩) 4 4, .slice (some ⟨bl, 0, none⟩) 1 1, .slice none 0 0, .slice none 0 0, .slice none 0 0, .slice none 0 0, .slice none 0 0, .slice none 0 0, .slice none 0 0] : Array Value)[i]?) ∧ (∀ i, w4.cell? ⟨w.heap.size + 1, i, none⟩ = (#[.slice (some ⟨be, 0, none⟩) 4 4, .slice (some ⟨kt, 0, none⟩) 1 1] : Array Value)[i]?) ∧ w4.cell? ⟨lp, 2, none⟩ = some (.slice (some ⟨ln, 0, none⟩) 2 2) := ⟨fun i => blk_cell BU.out i, fun i => blk_cell BC.out i, blk_cell BL.out 2⟩) | (go_at_call 25; refine (call_opn_none _ g1 c1 B (cb + ct) ch cl cd _ HE1.out BB.out).mono ?_; rintro e w5 ⟨g2, c2, rfl, ho, hb⟩; have HE2 := Aside0.mk ho; replace HB := Aside0.mk (below_step HB.out hb); replace HU := Aside0.mk (HU.out.below hb); replace HC := Aside0.mk (HC.out.below hb); replace BD := Aside0.mk (blk_below BD.out hb); replace BU := Aside0.mk (blk_below BU.out hb); replace BC := Aside0.mk (blk_below BC.out hb); replace BO := Aside0.mk (blk_below BO.out hb); replace BR := Aside0.mk (blk_below BR.out hb); replace BB := Aside0.mk (blk_below BB.out hb); replace BL := Aside0.mk (blk_below BL.out hb); clear hb; have hs : (∀ i, w5.cell? ⟨w.heap.size, i, none⟩ = (#[.string ⟨#[]⟩, .slice (some ⟨bn, 0, none⟩) 4 4, .slice (some ⟨bl, 0, none⟩) 1 1, .slice none 0 0, .slice none 0 0, .slice none 0 0, .slice none 0 0, .slice none 0 0, .slice none 0 0, .slice none 0 0] : Array Value)[i]?) ∧ (∀ i, w5.cell? ⟨w.heap.size + 1, i, none⟩ = (#[.slice (some ⟨be, 0, none⟩) 4 4, .slice (some ⟨kt, 0, none⟩) 1 1] : Array Value)[i]?) ∧ w5.cell? ⟨lp, 2, none⟩ = some (.slice (some ⟨ln, 0, none⟩) 2 2) := ⟨fun i => blk_cell BU.out i, fun i => blk_cell BC.out i, blk_cell BL.out 2⟩) | (go_at_call 24; refine (call_ins_four _ g2 c2 ln (cb + ct) ch cl cd _ HE2.out HU.out.2.2.2.2.2).mono ?_; rintro e w6 ⟨g3, c3, rfl, ho, hb⟩; have HE3 := Aside0.mk ho; replace HB := Aside0.mk (below_step HB.out hb); replace HU := Aside0.mk (HU.out.below hb); replace HC := Aside0.mk (HC.out.below hb); replace BD := Aside0.mk (blk_below BD.out hb); replace BU := Aside0.mk (blk_below BU.out hb); replace BC := Aside0.mk (blk_below BC.out hb); replace BO := Aside0.mk (blk_below BO.out hb); replace BR := Aside0.mk (blk_below BR.out hb); replace BB := Aside0.mk (blk_below BB.out hb); replace BL := Aside0.mk (blk_below BL.out hb); clear hb; have hs : (∀ i, w6.cell? ⟨w.heap.size, i, none⟩ = (#[.string ⟨#[]⟩, .slice (some ⟨bn, 0, none⟩) 4 4, .slice (some ⟨bl, 0, none⟩) 1 1, .slice none 0 0, .slice none 0 0, .slice none 0 0, .slice none 0 0, .slice none 0 0, .slice none 0 0, .slice none 0 0] : Array Value)[i]?) ∧ (∀ i, w6.cell? ⟨w.heap.size + 1, i, none⟩ = (#[.slice (some ⟨be, 0, none⟩) 4 4, .slice (some ⟨kt, 0, none⟩) 1 1] : Array Value)[i]?) ∧ w6.cell? ⟨lp, 2, none⟩ = some (.slice (some ⟨ln, 0, none⟩) 2 2) := ⟨fun i => blk_cell BU.out i, fun i => blk_cell BC.out i, blk_cell BL.out 2⟩))
  clear hs0
  clear hN hL h0 h1 h1' h2 hln hln' lbn lbl ln0 ln1 ln2 lln lbnA lbnB lblA lblB ln0A ln0B ln1A ln1B ln2A ln2B llnA llnB hE q0 q1 q1' q2 q3 qt lbe lk0 lk1 lk2 lk3 lkt lbeA lbeB lk0A lk0B lk1A lk1B lk2A lk2B lk3A lk3B lktA lktB hBD ltBD ltBDA ltBDB hBU ltBU ltBUA ltBUB hBC ltBC ltBCA ltBCB hBO ltBO ltBOA ltBOB fzBO hBR ltBR ltBRA ltBRB fzBR hBB ltBB ltBBA ltBBB hBL ltBL ltBLA ltBLB
  obtain ⟨hN, hL, h0, h1, h1', h2, hln, hln'⟩ := HU.out.reads
  obtain ⟨lbn, lbl, ln0, ln1, ln2, lln⟩ := HU.out.lts
  have lbnA : ∀ k, bn < w6.heap.size + k := fun k => by omega
  have lbnB : ∀ k j, bn < w6.heap.size + k + j := fun k j => by omega
  have lblA : ∀ k, bl < w6.heap.size + k := fun k => by omega
  have lblB : ∀ k j, bl < w6.heap.size + k + j := fun k j => by omega
  have ln0A : ∀ k, n0 < w6.heap.size + k := fun k => by omega
  have ln0B : ∀ k j, n0 < w6.heap.size + k + j := fun k j => by omega
  have ln1A : ∀ k, n1 < w6.heap.size + k := fun k => by omega
  have ln1B : ∀ k j, n1 < w6.heap.size + k + j := fun k j => by omega
  have ln2A : ∀ k, n2 < w6.heap.size + k := fun k => by omega
  have ln2B : ∀ k j, n2 < w6.heap.size + k + j := fun k j => by omega
  have llnA : ∀ k, ln < w6.heap.size + k := fun k => by omega
  have llnB : ∀ k j, ln < w6.heap.size + k + j := fun k j => by omega
  obtain ⟨hE, q0, q1, q1', q2, q3, qt⟩ := HC.out.reads
  obtain ⟨lbe, lk0, lk1, lk2, lk3, lkt⟩ := HC.out.lts
  have lbeA : ∀ k, be < w6.heap.size + k := fun k => by omega
  have lbeB : ∀ k j, be < w6.heap.size + k + j := fun k j => by omega
  have lk0A : ∀ k, k0 < w6.heap.size + k := fun k => by omega
  have lk0B : ∀ k j, k0 < w6.heap.size + k + j := fun k j => by omega
  have lk1A : ∀ k, k1 < w6.heap.size + k := fun k => by omega
  have lk1B : ∀ k j, k1 < w6.heap.size + k + j := fun k j => by omega
  have lk2A : ∀ k, k2 < w6.heap.size + k := fun k => by omega
  have lk2B : ∀ k j, k2 < w6.heap.size + k + j := fun k j => by omega
  have lk3A : ∀ k, k3 < w6.heap.size + k := fun k => by omega
  have lk3B : ∀ k j, k3 < w6.heap.size + k + j := fun k j => by omega
  have lktA : ∀ k, kt < w6.heap.size + k := fun k => by omega
  have lktB : ∀ k j, kt < w6.heap.size + k + j := fun k j => by omega
  have hBD : ∀ i, w6.cell? ⟨dd, i, none⟩ = (#[.bool false, .bool false, .bool false, .bool false] : Array Value)[i]? := fun i => blk_cell BD.out i
  have ltBD := blk_lt BD.out
  have ltBDA : ∀ k, dd < w6.heap.size + k := fun k => by omega
  have ltBDB : ∀ k j, dd < w6.heap.size + k + j := fun k j => by omega
  have hBU : ∀ i, w6.cell? ⟨w.heap.size, i, none⟩ = (#[.string ⟨#[]⟩, .slice (some ⟨bn, 0, none⟩) 4 4, .slice (some ⟨bl, 0, none⟩) 1 1, .slice none 0 0, .slice none 0 0, .slice none 0 0, .slice none 0 0, .slice none 0 0, .slice none 0 0, .slice none 0 0] : Array Value)[i]? := fun i => blk_cell BU.out i
  have ltBU := blk_lt BU.out
  have ltBUA : ∀ k, w.heap.size < w6.heap.size + k := fun k => by omega
  have ltBUB : ∀ k j, w.heap.size < w6.heap.size + k + j := fun k j => by omega
  have hBC : ∀ i, w6.cell? ⟨(w.heap.size + 1), i, none⟩ = (#[.slice (some ⟨be, 0, none⟩) 4 4, .slice (some ⟨kt, 0, none⟩) 1 1] : Array Value)[i]? := fun i => blk_cell BC.out i
  have ltBC := blk_lt BC.out
  have ltBCA : ∀ k, (w.heap.size + 1) < w6.heap.size + k := fun k => by omega
  have ltBCB : ∀ k j, (w.heap.size + 1) < w6.heap.size + k + j := fun k j => by omega
  have hBO : ∀ i, w6.cell? ⟨bo, i, none⟩ = (#[.int .i64 0] : Array Value)[i]? := fun i => blk_cell BO.out i
  have ltBO := blk_lt BO.out
  have ltBOA : ∀ k, bo < w6.heap.size + k := fun k => by omega
  have ltBOB : ∀ k j, bo < w6.heap.size + k + j := fun k j => by omega
  have fzBO := fun j => blk_frozen BO.out j
  have hBR : ∀ i, w6.cell? ⟨br, i, none⟩ = (#[.slice none 0 0] : Array Value)[i]? := fun i => blk_cell BR.out i
  have ltBR := blk_lt BR.out
  have ltBRA : ∀ k, br < w6.heap.size + k := fun k => by omega
  have ltBRB : ∀ k j, br < w6.heap.size + k + j := fun k j => by omega
  have fzBR := fun j => blk_frozen BR.out j
  have hBB : ∀ i, w6.cell? ⟨B, i, none⟩ = (#[.bool false, .bool false, .bool false, .bool false] : Array Value)[i]? := fun i => blk_cell BB.out i
  have ltBB := blk_lt BB.out
  have ltBBA : ∀ k, B < w6.heap.size + k := fun k => by omega
  have ltBBB : ∀ k j, B < w6.heap.size + k + j := fun k j => by omega
  have hBL : ∀ i, w6.cell? ⟨lp, i, none⟩ = (#[.int .i64 1, .int .i64 0, .slice (some ⟨ln, 0, none⟩) 2 2, .int .i64 (-1), .int .i64 mx] : Array Value)[i]? := fun i => blk_cell BL.out i
  have ltBL := blk_lt BL.out
  have ltBLA : ∀ k, lp < w6.heap.size + k := fun k => by omega
  have ltBLB : ∀ k j, lp < w6.heap.size + k + j := fun k j => by omega
  go_wp2_with fail
  clear hN hL h0 h1 h1' h2 hln hln' lbn lbl ln0 ln1 ln2 lln lbnA lbnB lblA lblB ln0A ln0B ln1A ln1B ln2A ln2B llnA llnB hE q0 q1 q1' q2 q3 qt lbe lk0 lk1 lk2 lk3 lkt lbeA lbeB lk0A lk0B lk1A lk1B lk2A lk2B lk3A lk3B lktA lktB hBD ltBD ltBDA ltBDB hBU ltBU ltBUA ltBUB hBC ltBC ltBCA ltBCB hBO ltBO ltBOA ltBOB fzBO hBR ltBR ltBRA ltBRB fzBR hBB ltBB ltBBA ltBBB hBL ltBL ltBLA ltBLB
  refine (spread_calls _ g3 c3 1 _ _ _ _ _ _ (SpV.v_in ch cd (by omega) (by omega) (by omega) (by omega)) HE3.out).mono ?_
  rintro e w7 ⟨bk, bs, bb, rfl, hbs, hK, hS, hY, hb⟩
  have HE4 := Aside0.mk (pw_own_below HE3.out hb)
  replace HB := Aside0.mk (below_step HB.out hb)
  replace HU := Aside0.mk (HU.out.below hb)
  replace HC := Aside0.mk (HC.out.below hb)
  replace BD := Aside0.mk (blk_below BD.out hb)
  replace BU := Aside0.mk (blk_below BU.out hb)
  replace BC := Aside0.mk (blk_below BC.out hb)
  replace BO := Aside0.mk (blk_below BO.out hb)
  replace BR := Aside0.mk (blk_below BR.out hb)
  replace BB := Aside0.mk (blk_below BB.out hb)
  replace BL := Aside0.mk (blk_below BL.out hb)
  clear hb
  have BK := Aside0.mk hK
  have BS := Aside0.mk hS
  have BY := Aside0.mk hY
  clear hK hS hY hbs
  go_upto_region 10 with (fail)
  have hb : Below w7.heap.size w7 (w7.alloc (.cells #[.slice (some ⟨bk, 0, none⟩) 4 4, .slice (some ⟨bs, 0, none⟩) 4 4, .slice (some ⟨bb, 0, none⟩) 4 4] 71)) := (by repeat (first | with_reducible exact Below.refl _ _ | apply below_alloc | apply pw_below_drewN | apply below_drew1))
  have BX : Aside0 (Blk (w7.alloc (.cells #[.slice (some ⟨bk, 0, none⟩) 4 4, .slice (some ⟨bs, 0, none⟩) 4 4, .slice (some ⟨bb, 0, none⟩) 4 4] 71)) w7.heap.size #[.slice (some ⟨bk, 0, none⟩) 4 4, .slice (some ⟨bs, 0, none⟩) 4 4, .slice (some ⟨bb, 0, none⟩) 4 4] 71) := ⟨(by (repeat (first | with_reducible exact heap_alloc_new _ _ | with_reducible exact heap_alloc2_new _ _ _ | with_reducible exact blk_at3 _ _ _ _ | with_reducible exact blk_at4 _ _ _ _ _ | refine blk_alloc ?_ _)))⟩
  replace HB := Aside0.mk (below_step HB.out hb)
  replace HU := Aside0.mk (HU.out.below hb)
  replace HC := Aside0.mk (HC.out.below hb)
  replace BD := Aside0.mk (blk_below BD.out hb)
  replace BU := Aside0.mk (blk_below BU.out hb)
  replace BC := Aside0.mk (blk_below BC.out hb)
  replace BO := Aside0.mk (blk_below BO.out hb)
  replace BR := Aside0.mk (blk_below BR.out hb)
  replace BB := Aside0.mk (blk_below BB.out hb)
  replace BL := Aside0.mk (blk_below BL.out hb)
  replace BK := Aside0.mk (blk_below BK.out hb)
  replace BS := Aside0.mk (blk_below BS.out hb)
  replace BY := Aside0.mk (blk_below BY.out hb)
  clear hb
  have HE5 := Aside0.mk (own_alloc HE4.out (.cells #[.slice (some ⟨bk, 0, none⟩) 4 4, .slice (some ⟨bs, 0, none⟩) 4 4, .slice (some ⟨bb, 0, none⟩) 4 4] 71))
  generalize (w7.alloc (.cells #[.slice (some ⟨bk, 0, none⟩) 4 4, .slice (some ⟨bs, 0, none⟩) 4 4, .slice (some ⟨bb, 0, none⟩) 4 4] 71)) = Wc at HE5 HU HC HB BD BU BC BO BR BB BL BK BS BY BX ⊢
  obtain ⟨bx, HBX⟩ : ∃ b, Aside0 (b = w7.heap.size) := ⟨_, ⟨rfl⟩⟩
  rw [← HBX.out] at BX ⊢
  have HNc : Aside0 (w.heap.size ≤ Wc.heap.size) := ⟨HB.out.size⟩
  obtain ⟨hN, hL, h0, h1, h1', h2, hln, hln'⟩ := HU.out.reads
  obtain ⟨lbn, lbl, ln0, ln1, ln2, lln⟩ := HU.out.lts
  have lbnA : ∀ k, bn < Wc.heap.size + k := fun k => by omega
  have lbnB : ∀ k j, bn < Wc.heap.size + k + j := fun k j => by omega
  have lblA : ∀ k, bl < Wc.heap.size + k := fun k => by omega
  have lblB : ∀ k j, bl < Wc.heap.size + k + j := fun k j => by omega
  have ln0A : ∀ k, n0 < Wc.heap.size + k := fun k => by omega
  have ln0B : ∀ k j, n0 < Wc.heap.size + k + j := fun k j => by omega
  have ln1A : ∀ k, n1 < Wc.heap.size + k := fun k => by omega
  have ln1B : ∀ k j, n1 < Wc.heap.size + k + j := fun k j => by omega
  have ln2A : ∀ k, n2 < Wc.heap.size + k := fun k => by omega
  have ln2B : ∀ k j, n2 < Wc.heap.size + k + j := fun k j => by omega
  have llnA : ∀ k, ln < Wc.heap.size + k := fun k => by omega
  have llnB : ∀ k j, ln < Wc.heap.size + k + j := fun k j => by omega
  obtain ⟨hE, q0, q1, q1', q2, q3, qt⟩ := HC.out.reads
  obtain ⟨lbe, lk0, lk1, lk2, lk3, lkt⟩ := HC.out.lts
  have lbeA : ∀ k, be < Wc.heap.size + k := fun k => by omega
  have lbeB : ∀ k j, be < Wc.heap.size + k + j := fun k j => by omega
  have lk0A : ∀ k, k0 < Wc.heap.size + k := fun k => by omega
  have lk0B : ∀ k j, k0 < Wc.heap.size + k + j := fun k j => by omega
  have lk1A : ∀ k, k1 < Wc.heap.size + k := fun k => by omega
  have lk1B : ∀ k j, k1 < Wc.heap.size + k + j := fun k j => by omega
  have lk2A : ∀ k, k2 < Wc.heap.size + k := fun k => by omega
  have lk2B : ∀ k j, k2 < Wc.heap.size + k + j := fun k j => by omega
  have lk3A : ∀ k, k3 < Wc.heap.size + k := fun k => by omega
  have lk3B : ∀ k j, k3 < Wc.heap.size + k + j := fun k j => by omega
  have lktA : ∀ k, kt < Wc.heap.size + k := fun k => by omega
  have lktB : ∀ k j, kt < Wc.heap.size + k + j := fun k j => by omega
  have hBD : ∀ i, Wc.cell? ⟨dd, i, none⟩ = (#[.bool false, .bool false, .bool false, .bool false] : Array Value)[i]? := fun i => blk_cell BD.out i
  have ltBD := blk_lt BD.out
  have ltBDA : ∀ k, dd < Wc.heap.size + k := fun k => by omega
  have ltBDB : ∀ k j, dd < Wc.heap.size + k + j := fun k j => by omega
  have hBU : ∀ i, Wc.cell? ⟨w.heap.size, i, none⟩ = (#[.string ⟨#[]⟩, .slice (some ⟨bn, 0, none⟩) 4 4, .slice (some ⟨bl, 0, none⟩) 1 1, .slice none 0 0, .slice none 0 0, .slice none 0 0, .slice none 0 0, .slice none 0 0, .slice none 0 0, .slice none 0 0] : Array Value)[i]? := fun i => blk_cell BU.out i
  have ltBU := blk_lt BU.out
  have ltBUA : ∀ k, w.heap.size < Wc.heap.size + k := fun k => by omega
  have ltBUB : ∀ k j, w.heap.size < Wc.heap.size + k + j := fun k j => by omega
  have hBC : ∀ i, Wc.cell? ⟨(w.heap.size + 1), i, none⟩ = (#[.slice (some ⟨be, 0, none⟩) 4 4, .slice (some ⟨kt, 0, none⟩) 1 1] : Array Value)[i]? := fun i => blk_cell BC.out i
  have ltBC := blk_lt BC.out
  have ltBCA : ∀ k, (w.heap.size + 1) < Wc.heap.size + k := fun k => by omega
  have ltBCB : ∀ k j, (w.heap.size + 1) < Wc.heap.size + k + j := fun k j => by omega
  have hBO : ∀ i, Wc.cell? ⟨bo, i, none⟩ = (#[.int .i64 0] : Array Value)[i]? := fun i => blk_cell BO.out i
  have ltBO := blk_lt BO.out
  have ltBOA : ∀ k, bo < Wc.heap.size + k := fun k => by omega
  have ltBOB : ∀ k j, bo < Wc.heap.size + k + j := fun k j => by omega
  have fzBO := fun j => blk_frozen BO.out j
  have hBR : ∀ i, Wc.cell? ⟨br, i, none⟩ = (#[.slice none 0 0] : Array Value)[i]? := fun i => blk_cell BR.out i
  have ltBR := blk_lt BR.out
  have ltBRA : ∀ k, br < Wc.heap.size + k := fun k => by omega
  have ltBRB : ∀ k j, br < Wc.heap.size + k + j := fun k j => by omega
  have fzBR := fun j => blk_frozen BR.out j
  have hBB : ∀ i, Wc.cell? ⟨B, i, none⟩ = (#[.bool false, .bool false, .bool false, .bool false] : Array Value)[i]? := fun i => blk_cell BB.out i
  have ltBB := blk_lt BB.out
  have ltBBA : ∀ k, B < Wc.heap.size + k := fun k => by omega
  have ltBBB : ∀ k j, B < Wc.heap.size + k + j := fun k j => by omega
  have hBL : ∀ i, Wc.cell? ⟨lp, i, none⟩ = (#[.int .i64 1, .int .i64 0, .slice (some ⟨ln, 0, none⟩) 2 2, .int .i64 (-1), .int .i64 mx] : Array Value)[i]? := fun i => blk_cell BL.out i
  have ltBL := blk_lt BL.out
  have ltBLA : ∀ k, lp < Wc.heap.size + k := fun k => by omega
  have ltBLB : ∀ k j, lp < Wc.heap.size + k + j := fun k j => by omega
  have hBK : ∀ i, Wc.cell? ⟨bk, i, none⟩ = (#[.bool false, .bool true, .bool true, .bool false] : Array Value)[i]? := fun i => blk_cell BK.out i
  have ltBK := blk_lt BK.out
  have ltBKA : ∀ k, bk < Wc.heap.size + k := fun k => by omega
  have ltBKB : ∀ k j, bk < Wc.heap.size + k + j := fun k j => by omega
  have hBS : ∀ i, Wc.cell? ⟨bs, i, none⟩ = (#[.int .i64 0, .int .i64 0, .int .i64 ch, .int .i64 0] : Array Value)[i]? := fun i => blk_cell BS.out i
  have ltBS := blk_lt BS.out
  have ltBSA : ∀ k, bs < Wc.heap.size + k := fun k => by omega
  have ltBSB : ∀ k j, bs < Wc.heap.size + k + j := fun k j => by omega
  have hBY : ∀ i, Wc.cell? ⟨bb, i, none⟩ = (#[.int .i64 0, .int .i64 0, .int .i64 0, .int .i64 0, .int .i64 0, .int .i64 0, .int .i64 0, .int .i64 0, .int .i64 1, .int .i64 0, .int .i64 2, .int .i64 ch, .int .i64 0, .int .i64 0, .int .i64 0, .int .i64 0] : Array Value)[i]? := fun i => blk_cell BY.out i
  have ltBY := blk_lt BY.out
  have ltBYA : ∀ k, bb < Wc.heap.size + k := fun k => by omega
  have ltBYB : ∀ k j, bb < Wc.heap.size + k + j := fun k j => by omega
  have hBX : ∀ i, Wc.cell? ⟨bx, i, none⟩ = (#[.slice (some ⟨bk, 0, none⟩) 4 4, .slice (some ⟨bs, 0, none⟩) 4 4, .slice (some ⟨bb, 0, none⟩) 4 4] : Array Value)[i]? := fun i => blk_cell BX.out i
  have ltBX := blk_lt BX.out
  have ltBXA : ∀ k, bx < Wc.heap.size + k := fun k => by omega
  have ltBXB : ∀ k j, bx < Wc.heap.size + k + j := fun k j => by omega
  have hHE50 : Wc.cell? ⟨g3, 0, none⟩ = some (.int .i64 1) := HE5.out.cellAt 0 (by decide)
  have hHE51 : Wc.cell? ⟨g3, 1, none⟩ = some (.int .i64 0) := HE5.out.cellAt 1 (by decide)
  have hHE52 : Wc.cell? ⟨g3, 2, none⟩ = some (.int .i64 2) := HE5.out.cellAt 2 (by decide)
  have hHE53 : Wc.cell? ⟨g3, 3, none⟩ = some (.int .i64 ch) := HE5.out.cellAt 3 (by decide)
  have hHE54 : Wc.cell? ⟨g3, 4, none⟩ = some (.int .i64 2) := HE5.out.cellAt 4 (by decide)
  have hHE55 : Wc.cell? ⟨g3, 5, none⟩ = some (.int .i64 0) := HE5.out.cellAt 5 (by decide)
  have hHE56 : Wc.cell? ⟨g3, 6, none⟩ = some (.int .i64 1) := HE5.out.cellAt 6 (by decide)
  have hHE57 : Wc.cell? ⟨g3, 7, none⟩ = some (.int .i64 cd) := HE5.out.cellAt 7 (by decide)
  have ltg3 : g3 < Wc.heap.size := (HE5.out.lt _ rfl).2
  have ltg3A : ∀ k, g3 < Wc.heap.size + k := fun k => by omega
  go_wp2_with fail
  refine wp_loop_rounds 6 ?_
  rw [rounds_succ]
  go_wp2_with fail
  rw [rounds_succ]
  go_upto_block 3 with (fail)
  clear hHE50 hHE51 hHE52 hHE53 hHE54 hHE55 hHE56 hHE57 ltg3 ltg3A
  clear hN hL h0 h1 h1' h2 hln hln' lbn lbl ln0 ln1 ln2 lln lbnA lbnB lblA lblB ln0A ln0B ln1A ln1B ln2A ln2B llnA llnB hE q0 q1 q1' q2 q3 qt lbe lk0 lk1 lk2 lk3 lkt lbeA lbeB lk0A lk0B lk1A lk1B lk2A lk2B lk3A lk3B lktA lktB hBD ltBD ltBDA ltBDB hBU ltBU ltBUA ltBUB hBC ltBC ltBCA ltBCB hBO ltBO ltBOA ltBOB fzBO hBR ltBR ltBRA ltBRB fzBR hBB ltBB ltBBA ltBBB hBL ltBL ltBLA ltBLB hBK ltBK ltBKA ltBKB hBS ltBS ltBSA ltBSB hBY ltBY ltBYA ltBYB hBX ltBX ltBXA ltBXB
  have hb : Below Wc.heap.size Wc (Wc.alloc (.cells #[.int .i64 1, .int .i64 0, .int .i64 2, .int .i64 ch] 74)) := (by repeat (first | with_reducible exact Below.refl _ _ | apply below_alloc | apply pw_below_drewN | apply below_drew1))
  replace HB := Aside0.mk (below_step HB.out hb)
  replace HU := Aside0.mk (HU.out.below hb)
  replace HC := Aside0.mk (HC.out.below hb)
  replace BD := Aside0.mk (blk_below BD.out hb)
  replace BU := Aside0.mk (blk_below BU.out hb)
  replace BC := Aside0.mk (blk_below BC.out hb)
  replace BO := Aside0.mk (blk_below BO.out hb)
  replace BR := Aside0.mk (blk_below BR.out hb)
  replace BB := Aside0.mk (blk_below BB.out hb)
  replace BL := Aside0.mk (blk_below BL.out hb)
  replace BK := Aside0.mk (blk_below BK.out hb)
  replace BS := Aside0.mk (blk_below BS.out hb)
  replace BY := Aside0.mk (blk_below BY.out hb)
  replace BX := Aside0.mk (blk_below BX.out hb)
  clear hb
  have HE6 := Aside0.mk (own_alloc HE5.out (.cells #[.int .i64 1, .int .i64 0, .int .i64 2, .int .i64 ch] 74))
  generalize (Wc.alloc (.cells #[.int .i64 1, .int .i64 0, .int .i64 2, .int .i64 ch] 74)) = Wd at HE6 HU HC HB BD BU BC BO BR BB BL BK BS BY BX ⊢
  obtain ⟨hN, hL, h0, h1, h1', h2, hln, hln'⟩ := HU.out.reads
  obtain ⟨lbn, lbl, ln0, ln1, ln2, lln⟩ := HU.out.lts
  have lbnA : ∀ k, bn < Wd.heap.size + k := fun k => by omega
  have lbnB : ∀ k j, bn < Wd.heap.size + k + j := fun k j => by omega
  have lblA : ∀ k, bl < Wd.heap.size + k := fun k => by omega
  have lblB : ∀ k j, bl < Wd.heap.size + k + j := fun k j => by omega
  have ln0A : ∀ k, n0 < Wd.heap.size + k := fun k => by omega
  have ln0B : ∀ k j, n0 < Wd.heap.size + k + j := fun k j => by omega
  have ln1A : ∀ k, n1 < Wd.heap.size + k := fun k => by omega
  have ln1B : ∀ k j, n1 < Wd.heap.size + k + j := fun k j => by omega
  have ln2A : ∀ k, n2 < Wd.heap.size + k := fun k => by omega
  have ln2B : ∀ k j, n2 < Wd.heap.size + k + j := fun k j => by omega
  have llnA : ∀ k, ln < Wd.heap.size + k := fun k => by omega
  have llnB : ∀ k j, ln < Wd.heap.size + k + j := fun k j => by omega
  obtain ⟨hE, q0, q1, q1', q2, q3, qt⟩ := HC.out.reads
  obtain ⟨lbe, lk0, lk1, lk2, lk3, lkt⟩ := HC.out.lts
  have lbeA : ∀ k, be < Wd.heap.size + k := fun k => by omega
  have lbeB : ∀ k j, be < Wd.heap.size + k + j := fun k j => by omega
  have lk0A : ∀ k, k0 < Wd.heap.size + k := fun k => by omega
  have lk0B : ∀ k j, k0 < Wd.heap.size + k + j := fun k j => by omega
  have lk1A : ∀ k, k1 < Wd.heap.size + k := fun k => by omega
  have lk1B : ∀ k j, k1 < Wd.heap.size + k + j := fun k j => by omega
  have lk2A : ∀ k, k2 < Wd.heap.size + k := fun k => by omega
  have lk2B : ∀ k j, k2 < Wd.heap.size + k + j := fun k j => by omega
  have lk3A : ∀ k, k3 < Wd.heap.size + k := fun k => by omega
  have lk3B : ∀ k j, k3 < Wd.heap.size + k + j := fun k j => by omega
  have lktA : ∀ k, kt < Wd.heap.size + k := fun k => by omega
  have lktB : ∀ k j, kt < Wd.heap.size + k + j := fun k j => by omega
  have hBD : ∀ i, Wd.cell? ⟨dd, i, none⟩ = (#[.bool false, .bool false, .bool false, .bool false] : Array Value)[i]? := fun i => blk_cell BD.out i
  have ltBD := blk_lt BD.out
  have ltBDA : ∀ k, dd < Wd.heap.size + k := fun k => by omega
  have ltBDB : ∀ k j, dd < Wd.heap.size + k + j := fun k j => by omega
  have hBU : ∀ i, Wd.cell? ⟨w.heap.size, i, none⟩ = (#[.string ⟨#[]⟩, .slice (some ⟨bn, 0, none⟩) 4 4, .slice (some ⟨bl, 0, none⟩) 1 1, .slice none 0 0, .slice none 0 0, .slice none 0 0, .slice none 0 0, .slice none 0 0, .slice none 0 0, .slice none 0 0] : Array Value)[i]? := fun i => blk_cell BU.out i
  have ltBU := blk_lt BU.out
  have ltBUA : ∀ k, w.heap.size < Wd.heap.size + k := fun k => by omega
  have ltBUB : ∀ k j, w.heap.size < Wd.heap.size + k + j := fun k j => by omega
  have hBC : ∀ i, Wd.cell? ⟨(w.heap.size + 1), i, none⟩ = (#[.slice (some ⟨be, 0, none⟩) 4 4, .slice (some ⟨kt, 0, none⟩) 1 1] : Array Value)[i]? := fun i => blk_cell BC.out i
  have ltBC := blk_lt BC.out
  have ltBCA : ∀ k, (w.heap.size + 1) < Wd.heap.size + k := fun k => by omega
  have ltBCB : ∀ k j, (w.heap.size + 1) < Wd.heap.size + k + j := fun k j => by omega
  have hBO : ∀ i, Wd.cell? ⟨bo, i, none⟩ = (#[.int .i64 0] : Array Value)[i]? := fun i => blk_cell BO.out i
  have ltBO := blk_lt BO.out
  have ltBOA : ∀ k, bo < Wd.heap.size + k := fun k => by omega
  have ltBOB : ∀ k j, bo < Wd.heap.size + k + j := fun k j => by omega
  have fzBO := fun j => blk_frozen BO.out j
  have hBR : ∀ i, Wd.cell? ⟨br, i, none⟩ = (#[.slice none 0 0] : Array Value)[i]? := fun i => blk_cell BR.out i
  have ltBR := blk_lt BR.out
  have ltBRA : ∀ k, br < Wd.heap.size + k := fun k => by omega
  have ltBRB : ∀ k j, br < Wd.heap.size + k + j := fun k j => by omega
  have fzBR := fun j => blk_frozen BR.out j
  have hBB : ∀ i, Wd.cell? ⟨B, i, none⟩ = (#[.bool false, .bool false, .bool false, .bool false] : Array Value)[i]? := fun i => blk_cell BB.out i
  have ltBB := blk_lt BB.out
  have ltBBA : ∀ k, B < Wd.heap.size + k := fun k => by omega
  have ltBBB : ∀ k j, B < Wd.heap.size + k + j := fun k j => by omega
  have hBL : ∀ i, Wd.cell? ⟨lp, i, none⟩ = (#[.int .i64 1, .int .i64 0, .slice (some ⟨ln, 0, none⟩) 2 2, .int .i64 (-1), .int .i64 mx] : Array Value)[i]? := fun i => blk_cell BL.out i
  have ltBL := blk_lt BL.out
  have ltBLA : ∀ k, lp < Wd.heap.size + k := fun k => by omega
  have ltBLB : ∀ k j, lp < Wd.heap.size + k + j := fun k j => by omega
  have hBK : ∀ i, Wd.cell? ⟨bk, i, none⟩ = (#[.bool false, .bool true, .bool true, .bool false] : Array Value)[i]? := fun i => blk_cell BK.out i
  have ltBK := blk_lt BK.out
  have ltBKA : ∀ k, bk < Wd.heap.size + k := fun k => by omega
  have ltBKB : ∀ k j, bk < Wd.heap.size + k + j := fun k j => by omega
  have hBS : ∀ i, Wd.cell? ⟨bs, i, none⟩ = (#[.int .i64 0, .int .i64 0, .int .i64 ch, .int .i64 0] : Array Value)[i]? := fun i => blk_cell BS.out i
  have ltBS := blk_lt BS.out
  have ltBSA : ∀ k, bs < Wd.heap.size + k := fun k => by omega
  have ltBSB : ∀ k j, bs < Wd.heap.size + k + j := fun k j => by omega
  have hBY : ∀ i, Wd.cell? ⟨bb, i, none⟩ = (#[.int .i64 0, .int .i64 0, .int .i64 0, .int .i64 0, .int .i64 0, .int .i64 0, .int .i64 0, .int .i64 0, .int .i64 1, .int .i64 0, .int .i64 2, .int .i64 ch, .int .i64 0, .int .i64 0, .int .i64 0, .int .i64 0] : Array Value)[i]? := fun i => blk_cell BY.out i
  have ltBY := blk_lt BY.out
  have ltBYA : ∀ k, bb < Wd.heap.size + k := fun k => by omega
  have ltBYB : ∀ k j, bb < Wd.heap.size + k + j := fun k j => by omega
  have hBX : ∀ i, Wd.cell? ⟨bx, i, none⟩ = (#[.slice (some ⟨bk, 0, none⟩) 4 4, .slice (some ⟨bs, 0, none⟩) 4 4, .slice (some ⟨bb, 0, none⟩) 4 4] : Array Value)[i]? := fun i => blk_cell BX.out i
  have ltBX := blk_lt BX.out
  have ltBXA : ∀ k, bx < Wd.heap.size + k := fun k => by omega
  have ltBXB : ∀ k j, bx < Wd.heap.size + k + j := fun k j => by omega
  have hHE60 : Wd.cell? ⟨g3, 0, none⟩ = some (.int .i64 1) := HE6.out.cellAt 0 (by decide)
  have hHE61 : Wd.cell? ⟨g3, 1, none⟩ = some (.int .i64 0) := HE6.out.cellAt 1 (by decide)
  have hHE62 : Wd.cell? ⟨g3, 2, none⟩ = some (.int .i64 2) := HE6.out.cellAt 2 (by decide)
  have hHE63 : Wd.cell? ⟨g3, 3, none⟩ = some (.int .i64 ch) := HE6.out.cellAt 3 (by decide)
  have hHE64 : Wd.cell? ⟨g3, 4, none⟩ = some (.int .i64 2) := HE6.out.cellAt 4 (by decide)
  have hHE65 : Wd.cell? ⟨g3, 5, none⟩ = some (.int .i64 0) := HE6.out.cellAt 5 (by decide)
  have hHE66 : Wd.cell? ⟨g3, 6, none⟩ = some (.int .i64 1) := HE6.out.cellAt 6 (by decide)
  have hHE67 : Wd.cell? ⟨g3, 7, none⟩ = some (.int .i64 cd) := HE6.out.cellAt 7 (by decide)
  have ltg3 : g3 < Wd.heap.size := (HE6.out.lt _ rfl).2
  have ltg3A : ∀ k, g3 < Wd.heap.size + k := fun k => by omega
  go_cut [15, 16] from 66 to 112 (fun _ _ wx => Blk wx bo #[.int .i64 (ch + cd)] 3 ∧ Below w.heap.size w wx)
  case first =>
    rcases Int.lt_or_le 0 (ch + cd) with hpos | hpos
    · have hdec : decide (0 < ch + cd) = true := decide_eq_true hpos
      have HPOS := Aside0.mk hpos
      go_upto_region 14 with (fail)
      go_region
      go_upto_region 16 with (fail)
      clear hdec
      clear hN hL h0 h1 h1' h2 hln hln' lbn lbl ln0 ln1 ln2 lln lbnA lbnB lblA lblB ln0A ln0B ln1A ln1B ln2A ln2B llnA llnB hE q0 q1 q1' q2 q3 qt lbe lk0 lk1 lk2 lk3 lkt lbeA lbeB lk0A lk0B lk1A lk1B lk2A lk2B lk3A lk3B lktA lktB hBD ltBD ltBDA ltBDB hBU ltBU ltBUA ltBUB hBC ltBC ltBCA ltBCB hBO ltBO ltBOA ltBOB fzBO hBR ltBR ltBRA ltBRB fzBR hBB ltBB ltBBA ltBBB hBL ltBL ltBLA ltBLB hBK ltBK ltBKA ltBKB hBS ltBS ltBSA ltBSB hBY ltBY ltBYA ltBYB hBX ltBX ltBXA ltBXB
      clear hHE60 hHE61 hHE62 hHE63 hHE64 hHE65 hHE66 hHE67 ltg3 ltg3A
      have hb : Below Wd.heap.size Wd ((Wd.alloc (.cells #[.int .i64 2, .int .i64 0, .int .i64 1, .int .i64 cd] 74)).drew) := (by repeat (first | with_reducible exact Below.refl _ _ | apply below_alloc | apply pw_below_drewN | apply below_drew1))
      have BE : Aside0 (Blk ((Wd.alloc (.cells #[.int .i64 2, .int .i64 0, .int .i64 1, .int .i64 cd] 74)).drew) Wd.heap.size #[.int .i64 2, .int .i64 0, .int .i64 1, .int .i64 cd] 74) := ⟨blk_drew (heap_alloc_new _ _)⟩
      replace HB := Aside0.mk (below_step HB.out hb)
      replace HU := Aside0.mk (HU.out.below hb)
      replace HC := Aside0.mk (HC.out.below hb)
      replace BD := Aside0.mk (blk_below BD.out hb)
      replace BU := Aside0.mk (blk_below BU.out hb)
      replace BC := Aside0.mk (blk_below BC.out hb)
      replace BO := Aside0.mk (blk_below BO.out hb)
      replace BR := Aside0.mk (blk_below BR.out hb)
      replace BB := Aside0.mk (blk_below BB.out hb)
      replace BL := Aside0.mk (blk_below BL.out hb)
      replace BK := Aside0.mk (blk_below BK.out hb)
      replace BS := Aside0.mk (blk_below BS.out hb)
      replace BY := Aside0.mk (blk_below BY.out hb)
      replace BX := Aside0.mk (blk_below BX.out hb)
      clear hb
      generalize (Wd.alloc (.cells #[.int .i64 2, .int .i64 0, .int .i64 1, .int .i64 cd] 74)).drew = We at HU HC HB BE BD BU BC BO BR BB BL BK BS BY BX ⊢
      obtain ⟨eb, HEB⟩ : ∃ b, Aside0 (b = Wd.heap.size) := ⟨_, ⟨rfl⟩⟩
      rw [← HEB.out] at BE ⊢
      obtain ⟨hN, hL, h0, h1, h1', h2, hln, hln'⟩ := HU.out.reads
      obtain ⟨lbn, lbl, ln0, ln1, ln2, lln⟩ := HU.out.lts
      have lbnA : ∀ k, bn < We.heap.size + k := fun k => by omega
      have lbnB : ∀ k j, bn < We.heap.size + k + j := fun k j => by omega
      have lblA : ∀ k, bl < We.heap.size + k := fun k => by omega
      have lblB : ∀ k j, bl < We.heap.size + k + j := fun k j => by omega
      have ln0A : ∀ k, n0 < We.heap.size + k := fun k => by omega
      have ln0B : ∀ k j, n0 < We.heap.size + k + j := fun k j => by omega
      have ln1A : ∀ k, n1 < We.heap.size + k := fun k => by omega
      have ln1B : ∀ k j, n1 < We.heap.size + k + j := fun k j => by omega
      have ln2A : ∀ k, n2 < We.heap.size + k := fun k => by omega
      have ln2B : ∀ k j, n2 < We.heap.size + k + j := fun k j => by omega
      have llnA : ∀ k, ln < We.heap.size + k := fun k => by omega
      have llnB : ∀ k j, ln < We.heap.size + k + j := fun k j => by omega
      obtain ⟨hE, q0, q1, q1', q2, q3, qt⟩ := HC.out.reads
      obtain ⟨lbe, lk0, lk1, lk2, lk3, lkt⟩ := HC.out.lts
      have lbeA : ∀ k, be < We.heap.size + k := fun k => by omega
      have lbeB : ∀ k j, be < We.heap.size + k + j := fun k j => by omega
      have lk0A : ∀ k, k0 < We.heap.size + k := fun k => by omega
      have lk0B : ∀ k j, k0 < We.heap.size + k + j := fun k j => by omega
      have lk1A : ∀ k, k1 < We.heap.size + k := fun k => by omega
      have lk1B : ∀ k j, k1 < We.heap.size + k + j := fun k j => by omega
      have lk2A : ∀ k, k2 < We.heap.size + k := fun k => by omega
      have lk2B : ∀ k j, k2 < We.heap.size + k + j := fun k j => by omega
      have lk3A : ∀ k, k3 < We.heap.size + k := fun k => by omega
      have lk3B : ∀ k j, k3 < We.heap.size + k + j := fun k j => by omega
      have lktA : ∀ k, kt < We.heap.size + k := fun k => by omega
      have lktB : ∀ k j, kt < We.heap.size + k + j := fun k j => by omega
      have hBD : ∀ i, We.cell? ⟨dd, i, none⟩ = (#[.bool false, .bool false, .bool false, .bool false] : Array Value)[i]? := fun i => blk_cell BD.out i
      have ltBD := blk_lt BD.out
      have ltBDA : ∀ k, dd < We.heap.size + k := fun k => by omega
      have ltBDB : ∀ k j, dd < We.heap.size + k + j := fun k j => by omega
      have hBU : ∀ i, We.cell? ⟨w.heap.size, i, none⟩ = (#[.string ⟨#[]⟩, .slice (some ⟨bn, 0, none⟩) 4 4, .slice (some ⟨bl, 0, none⟩) 1 1, .slice none 0 0, .slice none 0 0, .slice none 0 0, .slice none 0 0, .slice none 0 0, .slice none 0 0, .slice none 0 0] : Array Value)[i]? := fun i => blk_cell BU.out i
      have ltBU := blk_lt BU.out
      have ltBUA : ∀ k, w.heap.size < We.heap.size + k := fun k => by omega
      have ltBUB : ∀ k j, w.heap.size < We.heap.size + k + j := fun k j => by omega
      have hBC : ∀ i, We.cell? ⟨(w.heap.size + 1), i, none⟩ = (#[.slice (some ⟨be, 0, none⟩) 4 4, .slice (some ⟨kt, 0, none⟩) 1 1] : Array Value)[i]? := fun i => blk_cell BC.out i
      have ltBC := blk_lt BC.out
      have ltBCA : ∀ k, (w.heap.size + 1) < We.heap.size + k := fun k => by omega
      have ltBCB : ∀ k j, (w.heap.size + 1) < We.heap.size + k + j := fun k j => by omega
      have hBO : ∀ i, We.cell? ⟨bo, i, none⟩ = (#[.int .i64 0] : Array Value)[i]? := fun i => blk_cell BO.out i
      have ltBO := blk_lt BO.out
      have ltBOA : ∀ k, bo < We.heap.size + k := fun k => by omega
      have ltBOB : ∀ k j, bo < We.heap.size + k + j := fun k j => by omega
      have fzBO := fun j => blk_frozen BO.out j
      have hBR : ∀ i, We.cell? ⟨br, i, none⟩ = (#[.slice none 0 0] : Array Value)[i]? := fun i => blk_cell BR.out i
      have ltBR := blk_lt BR.out
      have ltBRA : ∀ k, br < We.heap.size + k := fun k => by omega
      have ltBRB : ∀ k j, br < We.heap.size + k + j := fun k j => by omega
      have fzBR := fun j => blk_frozen BR.out j
      have hBB : ∀ i, We.cell? ⟨B, i, none⟩ = (#[.bool false, .bool false, .bool false, .bool false] : Array Value)[i]? := fun i => blk_cell BB.out i
      have ltBB := blk_lt BB.out
      have ltBBA : ∀ k, B < We.heap.size + k := fun k => by omega
      have ltBBB : ∀ k j, B < We.heap.size + k + j := fun k j => by omega
      have hBL : ∀ i, We.cell? ⟨lp, i, none⟩ = (#[.int .i64 1, .int .i64 0, .slice (some ⟨ln, 0, none⟩) 2 2, .int .i64 (-1), .int .i64 mx] : Array Value)[i]? := fun i => blk_cell BL.out i
      have ltBL := blk_lt BL.out
      have ltBLA : ∀ k, lp < We.heap.size + k := fun k => by omega
      have ltBLB : ∀ k j, lp < We.heap.size + k + j := fun k j => by omega
      have hBK : ∀ i, We.cell? ⟨bk, i, none⟩ = (#[.bool false, .bool true, .bool true, .bool false] : Array Value)[i]? := fun i => blk_cell BK.out i
      have ltBK := blk_lt BK.out
      have ltBKA : ∀ k, bk < We.heap.size + k := fun k => by omega
      have ltBKB : ∀ k j, bk < We.heap.size + k + j := fun k j => by omega
      have hBS : ∀ i, We.cell? ⟨bs, i, none⟩ = (#[.int .i64 0, .int .i64 0, .int .i64 ch, .int .i64 0] : Array Value)[i]? := fun i => blk_cell BS.out i
      have ltBS := blk_lt BS.out
      have ltBSA : ∀ k, bs < We.heap.size + k := fun k => by omega
      have ltBSB : ∀ k j, bs < We.heap.size + k + j := fun k j => by omega
      have hBY : ∀ i, We.cell? ⟨bb, i, none⟩ = (#[.int .i64 0, .int .i64 0, .int .i64 0, .int .i64 0, .int .i64 0, .int .i64 0, .int .i64 0, .int .i64 0, .int .i64 1, .int .i64 0, .int .i64 2, .int .i64 ch, .int .i64 0, .int .i64 0, .int .i64 0, .int .i64 0] : Array Value)[i]? := fun i => blk_cell BY.out i
      have ltBY := blk_lt BY.out
      have ltBYA : ∀ k, bb < We.heap.size + k := fun k => by omega
      have ltBYB : ∀ k j, bb < We.heap.size + k + j := fun k j => by omega
      have hBX : ∀ i, We.cell? ⟨bx, i, none⟩ = (#[.slice (some ⟨bk, 0, none⟩) 4 4, .slice (some ⟨bs, 0, none⟩) 4 4, .slice (some ⟨bb, 0, none⟩) 4 4] : Array Value)[i]? := fun i => blk_cell BX.out i
      have ltBX := blk_lt BX.out
      have ltBXA : ∀ k, bx < We.heap.size + k := fun k => by omega
      have ltBXB : ∀ k j, bx < We.heap.size + k + j := fun k j => by omega
      have hBE : ∀ i, We.cell? ⟨eb, i, none⟩ = (#[.int .i64 2, .int .i64 0, .int .i64 1, .int .i64 cd] : Array Value)[i]? := fun i => blk_cell BE.out i
      have ltBE := blk_lt BE.out
      have ltBEA : ∀ k, eb < We.heap.size + k := fun k => by omega
      have ltBEB : ∀ k j, eb < We.heap.size + k + j := fun k j => by omega
      have HSE : Aside0 (w.heap.size ≤ We.heap.size) := ⟨HB.out.size⟩
      have HOO : Aside0 (w.heap.size ≤ bo ∧ w.heap.size ≤ br) := ⟨Nat.le_trans HNa.out HBO.out, Nat.le_trans HNa.out HBR.out⟩
      have nebxbo : ¬ bx = bo := blk_ne BX.out BO.out (by decide)
      have neebbo : ¬ eb = bo := blk_ne BE.out BO.out (by decide)
      have nelpbo : ¬ lp = bo := blk_ne BL.out BO.out (by decide)
      have nebxbr : ¬ bx = br := blk_ne BX.out BR.out (by decide)
      have neebbr : ¬ eb = br := blk_ne BE.out BR.out (by decide)
      have nelpbr : ¬ lp = br := blk_ne BL.out BR.out (by decide)
      have nebobr : ¬ bo = br := blk_ne BO.out BR.out (by decide)
      have nebrbo : ¬ br = bo := blk_ne BR.out BO.out (by decide)
      have hs0 : (∀ i, We.drew.cell? ⟨bx, i, none⟩ = (#[.slice (some ⟨bk, 0, none⟩) 4 4, .slice (some ⟨bs, 0, none⟩) 4 4, .slice (some ⟨bb, 0, none⟩) 4 4] : Array Value)[i]?) ∧ (∀ i, We.drew.cell? ⟨eb, i, none⟩ = (#[.int .i64 2, .int .i64 0, .int .i64 1, .int .i64 cd] : Array Value)[i]?) ∧ We.drew.cell? ⟨lp, 0, none⟩ = some (.int .i64 1) := ⟨fun i => blk_cell (blkd BX.out) i, fun i => blk_cell (blkd BE.out) i, blk_cell (blkd BL.out) 0⟩
      go_region_held3 (fun w' => (∀ i, w'.cell? ⟨bx, i, none⟩ = (#[.slice (some ⟨bk, 0, none⟩) 4 4, .slice (some ⟨bs, 0, none⟩) 4 4, .slice (some ⟨bb, 0, none⟩) 4 4] : Array Value)[i]?) ∧ (∀ i, w'.cell? ⟨eb, i, none⟩ = (#[.int .i64 2, .int .i64 0, .int .i64 1, .int .i64 cd] : Array Value)[i]?) ∧ w'.cell? ⟨lp, 0, none⟩ = some (.int .i64 1)) (first | with_reducible exact hs0 | with_reducible assumption | with_reducible exact ⟨fun i => blk_cell (blkd BX.out) i, fun i => blk_cell (blkd BE.out) i, blk_cell (blkd BL.out) 0⟩ | exact ⟨fun i => blk_cell (blkd (blk_alloc BX.out _)) i, fun i => blk_cell (blkd (blk_alloc BE.out _)) i, blk_cell (blkd (blk_alloc BL.out _)) 0⟩ | with_reducible exact ⟨fun i => blk_cell (blk_alloc ((HV.out.block _ (blk_lt BX.out)).trans BX.out) _) i, fun i => blk_cell (blk_alloc ((HV.out.block _ (blk_lt BE.out)).trans BE.out) _) i, blk_cell (blk_alloc ((HV.out.block _ (blk_lt BL.out)).trans BL.out) _) 0⟩ | with_reducible exact keepT (by with_reducible assumption) (by with_reducible assumption) (by with_reducible assumption) (by with_reducible assumption)) (first | (go_at_call 27; with_reducible refine (trace_in bk bs bb ch We.drew (blkd BY.out)).mono ?_; rintro e v1 ⟨g5, c5, rfl, ho, hb⟩; have hb1 : Below We.heap.size We v1 := below_step (below_drew1 (Below.refl _ _)) hb; have HV : Aside0 (Below We.heap.size We v1) := ⟨hb1⟩; have HT : Aside0 (v1.ownsRow We.heap.size 74 4 (.slice (some ⟨g5, 0, none⟩) 1 c5) 1 [.int .i64 1, .int .i64 0, .int .i64 2, .int .i64 ch]) := ⟨own_weaken ho (by simp)⟩; have hs : (∀ i, v1.cell? ⟨bx, i, none⟩ = (#[.slice (some ⟨bk, 0, none⟩) 4 4, .slice (some ⟨bs, 0, none⟩) 4 4, .slice (some ⟨bb, 0, none⟩) 4 4] : Array Value)[i]?) ∧ (∀ i, v1.cell? ⟨eb, i, none⟩ = (#[.int .i64 2, .int .i64 0, .int .i64 1, .int .i64 cd] : Array Value)[i]?) ∧ v1.cell? ⟨lp, 0, none⟩ = some (.int .i64 1) := ⟨fun i => blk_cell ((HV.out.block _ (blk_lt BX.out)).trans BX.out) i, fun i => blk_cell ((HV.out.block _ (blk_lt BE.out)).trans BE.out) i, (blk_cell ((HV.out.block _ (blk_lt BL.out)).trans BL.out) 0).trans rfl⟩; clear hb hb1 ho) | (go_at_call 27; with_reducible refine (trace_in bk bs bb ch (We.alloc (.cells #[.int .i64 2, .int .i64 0, .int .i64 1, .int .i64 cd] 74)).drew (blkd (blk_alloc BY.out _))).mono ?_; rintro e v1 ⟨g5, c5, rfl, ho, hb⟩; have hb1 : Below We.heap.size We v1 := below_step (below_drew1 (below_alloc (Below.refl _ _) _)) hb; have HON : Aside0 (Blk v1 We.heap.size #[.int .i64 2, .int .i64 0, .int .i64 1, .int .i64 cd] 74) := ⟨blk_below (blkd (heap_alloc_new We (.cells #[.int .i64 2, .int .i64 0, .int .i64 1, .int .i64 cd] 74))) hb⟩; have HV : Aside0 (Below We.heap.size We v1) := ⟨hb1⟩; have HT : Aside0 (v1.ownsRow We.heap.size 74 4 (.slice (some ⟨g5, 0, none⟩) 1 c5) 1 [.int .i64 1, .int .i64 0, .int .i64 2, .int .i64 ch]) := ⟨own_weaken ho (by simp)⟩; have hs : (∀ i, v1.cell? ⟨bx, i, none⟩ = (#[.slice (some ⟨bk, 0, none⟩) 4 4, .slice (some ⟨bs, 0, none⟩) 4 4, .slice (some ⟨bb, 0, none⟩) 4 4] : Array Value)[i]?) ∧ (∀ i, v1.cell? ⟨eb, i, none⟩ = (#[.int .i64 2, .int .i64 0, .int .i64 1, .int .i64 cd] : Array Value)[i]?) ∧ v1.cell? ⟨lp, 0, none⟩ = some (.int .i64 1) := ⟨fun i => blk_cell ((HV.out.block _ (blk_lt BX.out)).trans BX.out) i, fun i => blk_cell ((HV.out.block _ (blk_lt BE.out)).trans BE.out) i, (blk_cell ((HV.out.block _ (blk_lt BL.out)).trans BL.out) 0).trans rfl⟩; clear hb hb1 ho) | (have hgt := HT; have hon := HON; clear hgt hon; (rw [if_pos (by rfl)]; refine wp_append_at v1 (.tmp 107) (.tmp 109) 58 ?ho We.heap.size 74 i74 _ 4 32 Try.underlying58 HI.out HZA.out HZB.out HZC.out ?hzs (by decide) (.slice (some ⟨g5, 0, none⟩) 1 c5) 1 [.int .i64 1, .int .i64 0, .int .i64 2, .int .i64 ch] ?hs ?hown ⟨We.heap.size, 0, none⟩ 1 1 [.int .i64 2, .int .i64 0, .int .i64 1, .int .i64 cd] ?hx ?hl ?hnews ?h1 ?h63 ?hbytes ?hbase ?_; (case hown => exact HT.out); (case hnews => exact World.news_of_block HON.out); (case ho => rfl); (case hzs => rfl); (case hs => rfl); (case hx => rfl); (case hl => rfl); (case h1 => exact oneE _ _ _ _); (case h63 => unfold maxLen; omega); (case hbytes => omega); (case hbase => have := HV.out.size; simp; omega); have HBX2 : Below We.heap.size We v1 := HV.out; intro vq v2 hy hgrow hnil hat; simp only [Nat.reduceAdd, List.cons_append, List.nil_append] at hy; obtain ⟨gq, cq, rfl, hgq1, hgq2⟩ := hy.form (by omega); have HV2 : Aside0 (Below We.heap.size We v2) := ⟨Below.grown HBX2 hgrow (by have := HV.out.size; simp; omega) (fun k hk => own_base HT.out k hk)⟩; clear hy hgrow hnil hat hgq1 hgq2; have hs2 : (∀ i, v2.cell? ⟨bx, i, none⟩ = (#[.slice (some ⟨bk, 0, none⟩) 4 4, .slice (some ⟨bs, 0, none⟩) 4 4, .slice (some ⟨bb, 0, none⟩) 4 4] : Array Value)[i]?) ∧ (∀ i, v2.cell? ⟨eb, i, none⟩ = (#[.int .i64 2, .int .i64 0, .int .i64 1, .int .i64 cd] : Array Value)[i]?) ∧ v2.cell? ⟨lp, 0, none⟩ = some (.int .i64 1) := ⟨fun i => blk_cell ((HV2.out.block _ (blk_lt BX.out)).trans BX.out) i, fun i => blk_cell ((HV2.out.block _ (blk_lt BE.out)).trans BE.out) i, (blk_cell ((HV2.out.block _ (blk_lt BL.out)).trans BL.out) 0).trans rfl⟩; have BO2 : Aside0 (Blk v2 bo #[.int .i64 0] 3) := ⟨(HV2.out.block _ (blk_lt BO.out)).trans BO.out⟩; have BR2 : Aside0 (Blk v2 br #[.slice none 0 0] 58) := ⟨(HV2.out.block _ (blk_lt BR.out)).trans BR.out⟩; have ho2 := blk_cell BO2.out 0; have hr2 := blk_cell BR2.out 0; have fo2 := blk_frozen BO2.out 0; have fr2 := blk_frozen BR2.out 0)) | (have hgt := HT; clear hgt; (rw [if_pos (by rfl)]; refine wp_append_at (v1.alloc (.cells #[.int .i64 2, .int .i64 0, .int .i64 1, .int .i64 cd] 74)) (.tmp 107) (.tmp 109) 58 ?ho We.heap.size 74 i74 _ 4 32 Try.underlying58 HI.out HZA.out HZB.out HZC.out ?hzs (by decide) (.slice (some ⟨g5, 0, none⟩) 1 c5) 1 [.int .i64 1, .int .i64 0, .int .i64 2, .int .i64 ch] ?hs ?hown ⟨v1.heap.size, 0, none⟩ 1 1 [.int .i64 2, .int .i64 0, .int .i64 1, .int .i64 cd] ?hx ?hl ?hnews ?h1 ?h63 ?hbytes ?hbase ?_; (case hown => exact own_alloc HT.out _); (case hnews => exact World.news_of_block (heap_alloc_new v1 (.cells #[.int .i64 2, .int .i64 0, .int .i64 1, .int .i64 cd] 74))); (case ho => rfl); (case hzs => rfl); (case hs => rfl); (case hx => rfl); (case hl => rfl); (case h1 => exact oneE _ _ _ _); (case h63 => unfold maxLen; omega); (case hbytes => omega); (case hbase => have := HV.out.size; simp; omega); have HBX2 : Below We.heap.size We (v1.alloc (.cells #[.int .i64 2, .int .i64 0, .int .i64 1, .int .i64 cd] 74)) := HV.out.alloc HV.out.size _; intro vq v2 hy hgrow hnil hat; simp only [Nat.reduceAdd, List.cons_append, List.nil_append] at hy; obtain ⟨gq, cq, rfl, hgq1, hgq2⟩ := hy.form (by omega); have HV2 : Aside0 (Below We.heap.size We v2) := ⟨Below.grown HBX2 hgrow (by have := HV.out.size; simp; omega) (fun k hk => own_base HT.out k hk)⟩; clear hy hgrow hnil hat hgq1 hgq2; have hs2 : (∀ i, v2.cell? ⟨bx, i, none⟩ = (#[.slice (some ⟨bk, 0, none⟩) 4 4, .slice (some ⟨bs, 0, none⟩) 4 4, .slice (some ⟨bb, 0, none⟩) 4 4] : Array Value)[i]?) ∧ (∀ i, v2.cell? ⟨eb, i, none⟩ = (#[.int .i64 2, .int .i64 0, .int .i64 1, .int .i64 cd] : Array Value)[i]?) ∧ v2.cell? ⟨lp, 0, none⟩ = some (.int .i64 1) := ⟨fun i => blk_cell ((HV2.out.block _ (blk_lt BX.out)).trans BX.out) i, fun i => blk_cell ((HV2.out.block _ (blk_lt BE.out)).trans BE.out) i, (blk_cell ((HV2.out.block _ (blk_lt BL.out)).trans BL.out) 0).trans rfl⟩; have BO2 : Aside0 (Blk v2 bo #[.int .i64 0] 3) := ⟨(HV2.out.block _ (blk_lt BO.out)).trans BO.out⟩; have BR2 : Aside0 (Blk v2 br #[.slice none 0 0] 58) := ⟨(HV2.out.block _ (blk_lt BR.out)).trans BR.out⟩; have ho2 := blk_cell BO2.out 0; have hr2 := blk_cell BR2.out 0; have fo2 := blk_frozen BO2.out 0; have fr2 := blk_frozen BR2.out 0)) | fail)
      all_goals
        go_wp2_with fail
        go_meet
        have HW2 := below_weaken HB.out HSE.out HV2.out
        first
          | exact ⟨blk_far (blk_set BO2.out 0 _) nebobr _, bset (bset HW2 HOO.out.1 _ _) HOO.out.2 _ _⟩
          | exact ⟨blk_set (blk_far BO2.out nebobr _) 0 _, bset (bset HW2 HOO.out.2 _ _) HOO.out.1 _ _⟩
    · have hdec : decide (0 < ch + cd) = false := decide_eq_false (by omega)
      go_upto_region 14 with (fail)
      go_region
      go_wp2_with fail
      go_meet
      have e0 : ch + cd = 0 := by omega
      rw [e0]
      exact ⟨by with_reducible repeat (first | exact BO.out | refine blk_drew ?_ | refine blk_alloc ?_ _), by repeat (first | with_reducible exact HB.out | apply below_drew1 | apply below_alloc)⟩
  obtain ⟨hbo, hb⟩ := hcut
  have lbo := blk_lt hbo
  clear HE6 HE5 HE4
  obtain ⟨Wf, hww⟩ : ∃ x, x = wc := ⟨_, rfl⟩
  subst hww
  have BOf := Aside0.mk hbo
  have HBf := Aside0.mk hb
  clear hbo hb lbo
  go_wp2_with fail
  rw [rounds_succ]
  go_wp2_with fail
  rw [rounds_succ]
  go_wp2_with fail
  go_ret2
  exact ⟨bo, br, rfl, BOf.out, HBf.out⟩
end Go.Proofs.Ytbeochkimihglaa.PHl
