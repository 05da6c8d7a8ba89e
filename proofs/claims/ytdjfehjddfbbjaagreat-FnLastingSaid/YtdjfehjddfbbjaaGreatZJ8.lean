/- What a node did put into a cluster: the reference's l11Do (written by gJ8.py, own work). -/
import Derived.Test.YtdjfehjddfbbjaaGreatZJ7
set_option linter.unusedVariables false
set_option linter.unusedSimpArgs false
namespace Go.Proofs.YtdjfehjddfbbjaaGreat
open Go Go.RowKit Mk
theorem nd_older {gg : Nat} {f1 fe f2 fl : List Nat} {m : Nat} (nd : (gg :: (f1 ++ (fe ++ f2))).Nodup) (nl : fl.Nodup) (h1 : ∀ b ∈ gg :: (f1 ++ (fe ++ f2)), m ≤ b) (h2 : ∀ b ∈ fl, b < m) : (gg :: (f1 ++ (fl ++ f2))).Nodup := by
  have hm : ∀ b, b ∈ fl → b ∉ gg :: (f1 ++ (fe ++ f2)) := fun b hb hx => by have := h1 b hx; have := h2 b hb; omega
  simp only [List.nodup_cons, List.nodup_append, List.mem_append, List.mem_cons, not_or] at nd hm ⊢
  grind
set_option maxRecDepth 100000 in
set_option maxHeartbeats 4000000 in
theorem l11Do_bad (c : SCluster) (k : Int) (r : SReplicaResult) (A0 : Option Addr) (c0 : Nat) (A1 : Option Addr) (c1 : Nat) (A2 : Option Addr) (c2 : Nat) (R6 : Option Addr) (e6 : Nat) (R8 : Option Addr) (e8 : Nat) (R9 : Option Addr) (e9 : Nat) (R10 : Option Addr) (e10 : Nat) (R11 : Option Addr) (e11 : Nat) (w : World) (q : (r.Code != 0) = true) :
    Calls Tryz.prog 188 #[.agg #[.slice A0 c.Nodes.length c0, .slice A1 c.Mails.length c1, .slice A2 c.Sealed.length c2], .int .i64 k, .agg #[.int .i64 r.Code, .int .i64 r.Replica.Id, .int .i64 r.Replica.Size, .int .i64 r.Replica.View, .bool r.Replica.Normal, .int .i64 r.Replica.Last, .slice R6 r.Replica.Log.length e6, .int .i64 r.Replica.Commit, .slice R8 r.Replica.Oks.length e8, .slice R9 r.Replica.Asks.length e9, .slice R10 r.Replica.Doers.length e10, .slice R11 r.Send.length e11]] w fun e w' => LaidClusterResult (badClusterResult r.Code) w e w' := by
  go_enter Tryz.func188, Tryz.ntmps188
  go_wp2_with fail
  refine (l11Bad_c r.Code _).mono ?_
  rintro e w1 ⟨rfl, hb1⟩
  have bw1 : Below w.heap.size w w1 := by repeat (first | (with_reducible assumption) | (with_reducible exact Below.refl _ _) | (with_reducible apply below_alloc) | (with_reducible apply below_drewN) | (with_reducible apply Below.drew) | (with_reducible refine below_set ?_ (by dsimp only; omega) _) | (with_reducible refine below_trans ?_ (by assumption)))
  have zB : Blk w1 (w.heap.size + 2) 134 [.int .i64 0, .slice none 0 0, .slice none 0 0, .slice none 0 0] := by
    have := (blk_alloc ((w.alloc (.cells #[.slice A0 c.Nodes.length c0, .slice A1 c.Mails.length c1, .slice A2 c.Sealed.length c2] 42)).alloc (.cells #[.int .i64 r.Code, .int .i64 r.Replica.Id, .int .i64 r.Replica.Size, .int .i64 r.Replica.View, .bool r.Replica.Normal, .int .i64 r.Replica.Last, .slice R6 r.Replica.Log.length e6, .int .i64 r.Replica.Commit, .slice R8 r.Replica.Oks.length e8, .slice R9 r.Replica.Asks.length e9, .slice R10 r.Replica.Doers.length e10, .slice R11 r.Send.length e11] 33)) [.int .i64 0, .slice none 0 0, .slice none 0 0, .slice none 0 0] 134).below hb1
    simpa only [Deep.nblk_alloc] using this
  have lo1 : w.heap.size + 3 ≤ w1.heap.size := by have := hb1.size; simp only [Deep.nblk_alloc] at this; omega
  have r0 := zB.cell (j := 0) rfl
  have y0 := zB.frozen 0
  have r1 := zB.cell (j := 1) rfl
  have y1 := zB.frozen 1
  have r2 := zB.cell (j := 2) rfl
  have y2 := zB.frozen 2
  have r3 := zB.cell (j := 3) rfl
  have y3 := zB.frozen 3
  go_wp2_with fail
  refine bodyPost_ret (v := .agg #[.int .i64 r.Code, .slice none 0 0, .slice none 0 0, .slice none 0 0]) (by simp [results, Tryz.results188, go_sem, r0, r1, r2, r3]) rfl (LaidClusterResult.bad _ ?_)
  repeat (first | (with_reducible assumption) | (with_reducible exact Below.refl _ _) | (with_reducible apply below_alloc) | (with_reducible apply below_drewN) | (with_reducible apply Below.drew) | (with_reducible refine below_set ?_ (by dsimp only; omega) _) | (with_reducible refine below_trans ?_ (by assumption)))
/-- A cluster's result whose parts are owned from B on. -/
def BasedCR (B : Nat) (x : SClusterResult) (w : World) (r : Ending) (w' : World) : Prop := ∃ A1 c1 A2 c2 A3 c3 f1 f2 f3, r = .returned (.agg #[.int .i64 x.Code, .slice A1 x.Cluster.Nodes.length c1, .slice A2 x.Cluster.Mails.length c2, .slice A3 x.Cluster.Sealed.length c3]) ∧ HasClusterResult B w' x A1 c1 A2 c2 A3 c3 f1 f2 f3 ∧ Below w.heap.size w w'
set_option maxRecDepth 100000 in
set_option maxHeartbeats 4000000 in
theorem l11Do_c (c : SCluster) (k : Nat) (n n' : SReplica) (ms : List SMail) (A0 : Option Addr) (c0 : Nat) (A1 : Option Addr) (c1 : Nat) (A2 : Option Addr) (c2 : Nat) (R6 : Option Addr) (e6 : Nat) (R8 : Option Addr) (e8 : Nat) (R9 : Option Addr) (e9 : Nat) (R10 : Option Addr) (e10 : Nat) (R11 : Option Addr) (e11 : Nat) (f6 f8 f9 f10 : List Nat) (B : Nat) (w : World) (h0 : RdS kReplica w A0 c0 c.Nodes) (h1 : RdS kMail w A1 c1 c.Mails) (h2 : RdS kEntry w A2 c2 c.Sealed) (g6 : OwnS kEntry 49 B w f6 (.slice R6 n'.Log.length e6) n'.Log) (g8 : OwnS kInt 2 B w f8 (.slice R8 n'.Oks.length e8) n'.Oks) (g9 : OwnS kBool 4 B w f9 (.slice R9 n'.Asks.length e9) n'.Asks) (g10 : OwnS kDoer 70 B w f10 (.slice R10 n'.Doers.length e10) n'.Doers)
    (ndG : (f6 ++ (f8 ++ (f9 ++ f10))).Nodup) (g11 : RdS kMail w R11 e11 ms) (hBw : B ≤ w.heap.size) (hs : SmallClu c) (hN : c.Nodes.length ≤ 5) (hM : c.Mails.length ≤ 120) (hk : k < c.Nodes.length) (hn : c.Nodes[k] = n) (hc0 : 0 ≤ n'.Commit) (hc1 : n'.Commit ≤ n'.Log.length) (hs' : SmallRep n') (hms : SmallMails ms) (hml : ms.length ≤ 1000) :
    Calls Tryz.prog 188 #[.agg #[.slice A0 c.Nodes.length c0, .slice A1 c.Mails.length c1, .slice A2 c.Sealed.length c2], .int .i64 k, .agg #[.int .i64 0, .int .i64 n'.Id, .int .i64 n'.Size, .int .i64 n'.View, .bool n'.Normal, .int .i64 n'.Last, .slice R6 n'.Log.length e6, .int .i64 n'.Commit, .slice R8 n'.Oks.length e8, .slice R9 n'.Asks.length e9, .slice R10 n'.Doers.length e10, .slice R11 ms.length e11]] w fun r w' => BasedCR B ⟨0, doneClu c k n' ms⟩ w r w' := by
  have HN := Lib.hid hn
  clear hn
  have a3 : Below w.heap.size w (((w.alloc (.cells #[.slice A0 c.Nodes.length c0, .slice A1 c.Mails.length c1, .slice A2 c.Sealed.length c2] 42)).alloc (.cells #[.int .i64 0, .int .i64 n'.Id, .int .i64 n'.Size, .int .i64 n'.View, .bool n'.Normal, .int .i64 n'.Last, .slice R6 n'.Log.length e6, .int .i64 n'.Commit, .slice R8 n'.Oks.length e8, .slice R9 n'.Asks.length e9, .slice R10 n'.Doers.length e10, .slice R11 ms.length e11] 33)).alloc (.cells #[.int .i64 0, .slice none 0 0, .slice none 0 0, .slice none 0 0] 134)) := below_alloc (below_alloc (below_alloc (Below.refl _ _) _) _) _
  have hlt' : (k : Int) < (c.Nodes.length : Int) := by omega
  go_enter Tryz.func188, Tryz.ntmps188
  go_wp2_with fail
  refine (l11Copy_c c _ _ _ _ _ _ _ (h0.below a3) (h1.below a3) (h2.below a3) hs).mono ?_
  rintro r w1 ⟨B0, d0, B1, d1, B2, d2, f0, f1, f2, rfl, ⟨o0, o1, o2, nd⟩, hb1⟩
  have rB : Blk w1 (w.heap.size + 1) 33 [.int .i64 0, .int .i64 n'.Id, .int .i64 n'.Size, .int .i64 n'.View, .bool n'.Normal, .int .i64 n'.Last, .slice R6 n'.Log.length e6, .int .i64 n'.Commit, .slice R8 n'.Oks.length e8, .slice R9 n'.Asks.length e9, .slice R10 n'.Doers.length e10, .slice R11 ms.length e11] := by
    have := ((blk_alloc (w.alloc (.cells #[.slice A0 c.Nodes.length c0, .slice A1 c.Mails.length c1, .slice A2 c.Sealed.length c2] 42)) [.int .i64 0, .int .i64 n'.Id, .int .i64 n'.Size, .int .i64 n'.View, .bool n'.Normal, .int .i64 n'.Last, .slice R6 n'.Log.length e6, .int .i64 n'.Commit, .slice R8 n'.Oks.length e8, .slice R9 n'.Asks.length e9, .slice R10 n'.Doers.length e10, .slice R11 ms.length e11] 33).below (below_alloc (Below.refl _ _) (.cells #[.int .i64 0, .slice none 0 0, .slice none 0 0, .slice none 0 0] 134))).below hb1
    simpa only [Deep.nblk_alloc] using this
  have zB : Blk w1 (w.heap.size + 2) 134 [.int .i64 0, .slice none 0 0, .slice none 0 0, .slice none 0 0] := by
    have := (blk_alloc ((w.alloc (.cells #[.slice A0 c.Nodes.length c0, .slice A1 c.Mails.length c1, .slice A2 c.Sealed.length c2] 42)).alloc (.cells #[.int .i64 0, .int .i64 n'.Id, .int .i64 n'.Size, .int .i64 n'.View, .bool n'.Normal, .int .i64 n'.Last, .slice R6 n'.Log.length e6, .int .i64 n'.Commit, .slice R8 n'.Oks.length e8, .slice R9 n'.Asks.length e9, .slice R10 n'.Doers.length e10, .slice R11 ms.length e11] 33)) [.int .i64 0, .slice none 0 0, .slice none 0 0, .slice none 0 0] 134).below hb1
    simpa only [Deep.nblk_alloc] using this
  have lo1 : w.heap.size + 3 ≤ w1.heap.size := by have := hb1.size; simp only [Deep.nblk_alloc] at this; omega
  have bw1 := below_trans a3 hb1
  have i0 : ∀ b ∈ f0, w.heap.size + 3 ≤ b ∧ b < w1.heap.size := fun b hb => by have := o0.in b hb; simp only [Deep.nblk_alloc] at this; omega
  have i1 : ∀ b ∈ f1, w.heap.size + 3 ≤ b ∧ b < w1.heap.size := fun b hb => by have := o1.in b hb; simp only [Deep.nblk_alloc] at this; omega
  have i2 : ∀ b ∈ f2, w.heap.size + 3 ≤ b ∧ b < w1.heap.size := fun b hb => by have := o2.in b hb; simp only [Deep.nblk_alloc] at this; omega
  replace o0 := o0.lift (B' := B) (fun b hb => by have := (i0 b hb).1; omega)
  replace o1 := o1.lift (B' := B) (fun b hb => by have := (i1 b hb).1; omega)
  replace o2 := o2.lift (B' := B) (fun b hb => by have := (i2 b hb).1; omega)
  clear hb1 a3
  go_upto_region 4 with fail
  refine at_world (fun W => Blk W w1.heap.size 42 [.slice B0 c.Nodes.length d0, .slice B1 c.Mails.length d1, .slice B2 c.Sealed.length d2] ∧ Below w1.heap.size w1 W ∧ w1.heap.size < W.heap.size) ⟨blk_alloc w1 [.slice B0 c.Nodes.length d0, .slice B1 c.Mails.length d1, .slice B2 c.Sealed.length d2] _, below_alloc (Below.refl _ _) _, by rw [Deep.nblk_alloc]; omega⟩ ?_
  rintro W3 ⟨yB, b3, l3⟩
  replace o0 := OwnS.bel' o0 b3
  replace o1 := OwnS.bel' o1 b3
  replace o2 := OwnS.bel' o2 b3
  replace rB := rB.below b3
  replace zB := zB.below b3
  have bw3 := below_trans bw1 b3
  clear b3 bw1
  have eN : c.Nodes = c.Nodes.take k ++ n :: c.Nodes.drop (k + 1) := by
    rw [← HN.out, ← List.drop_eq_getElem_cons hk, List.take_append_drop]
  obtain ⟨nd0, nd12, d012⟩ := List.nodup_append.1 nd
  obtain ⟨nd1, nd2, d12⟩ := List.nodup_append.1 nd12
  have hlk : (c.Nodes.take k).length = k := by rw [List.length_take, Nat.min_eq_left (by omega)]
  have o0' := o0
  rw [eN] at o0'
  generalize hL : (c.Nodes.take k ++ n :: c.Nodes.drop (k + 1)).length = L at o0'
  obtain ⟨gg, fe, fa, fz, l1, ce, l2, eA, hn', ef, hcl, hK, hO, wand⟩ := o0'.zoom nd0
  subst eA
  rw [hlk] at hcl
  have hc : l1.length = k * 10 := hcl
  obtain ⟨D5, m5, D7, m7, D8, m8, D9, m9, v5, v7, v8, v9, rfl, rfl, _, _, _, _⟩ := kReplica_own hO
  have y0 := yB.cell (j := 0) rfl
  have r1 := rB.cell (j := 1) rfl
  have r2 := rB.cell (j := 2) rfl
  have r3 := rB.cell (j := 3) rfl
  have r4 := rB.cell (j := 4) rfl
  have r5 := rB.cell (j := 5) rfl
  have r6 := rB.cell (j := 6) rfl
  have r7 := rB.cell (j := 7) rfl
  have r8 := rB.cell (j := 8) rfl
  have r9 := rB.cell (j := 9) rfl
  have r10 := rB.cell (j := 10) rfl
  have K0 := hK.mid hc (j := 0) rfl
  have K1 := hK.mid hc (j := 1) rfl
  have K2 := hK.mid hc (j := 2) rfl
  have K3 := hK.mid hc (j := 3) rfl
  have K4 := hK.mid hc (j := 4) rfl
  have K5 := hK.mid hc (j := 5) rfl
  have K6 := hK.mid hc (j := 6) rfl
  have K7 := hK.mid hc (j := 7) rfl
  have K8 := hK.mid hc (j := 8) rfl
  have K9 := hK.mid hc (j := 9) rfl
  have Z0 := hK.frozen (k * 10 + 0)
  have Z1 := hK.frozen (k * 10 + 1)
  have Z2 := hK.frozen (k * 10 + 2)
  have Z3 := hK.frozen (k * 10 + 3)
  have Z4 := hK.frozen (k * 10 + 4)
  have Z5 := hK.frozen (k * 10 + 5)
  have Z6 := hK.frozen (k * 10 + 6)
  have Z7 := hK.frozen (k * 10 + 7)
  have Z8 := hK.frozen (k * 10 + 8)
  have Z9 := hK.frozen (k * 10 + 9)
  have HL := Lib.hid hL
  have HC := Lib.hid hc
  have EF := Lib.hid ef
  have EN := Lib.hid eN
  have hKk := Lib.hid hK
  clear eN hL hc hcl hlk hn' ef hK o0
  simp only [Nat.add_zero] at K0 Z0
  go_upto_region 5 with fail
  clear y0 r1 r2 r3 r4 r5 r6 r7 r8 r9 r10 K0 Z0 K1 Z1 K2 Z2 K3 Z3 K4 Z4 K5 Z5 K6 Z6 K7 Z7 K8 Z8 K9 Z9
  have hD : Blk W3 gg 29 (l1 ++ [.int .i64 n.Id, .int .i64 n.Size, .int .i64 n.View, .bool n.Normal, .int .i64 n.Last, .slice D5 n.Log.length m5, .int .i64 n.Commit, .slice D7 n.Oks.length m7, .slice D8 n.Asks.length m8, .slice D9 n.Doers.length m9] ++ l2) := hKk.out
  have BK := ((((((((((hD.set HC.out (j := 0) (by simp) (.int .i64 n'.Id)).set HC.out (j := 1) (by simp) (.int .i64 n'.Size)).set HC.out (j := 2) (by simp) (.int .i64 n'.View)).set HC.out (j := 3) (by simp) (.bool n'.Normal)).set HC.out (j := 4) (by simp) (.int .i64 n'.Last)).set HC.out (j := 5) (by simp) (.slice R6 n'.Log.length e6)).set HC.out (j := 6) (by simp) (.int .i64 n'.Commit)).set HC.out (j := 7) (by simp) (.slice R8 n'.Oks.length e8)).set HC.out (j := 8) (by simp) (.slice R9 n'.Asks.length e9)).set HC.out (j := 9) (by simp) (.slice R10 n'.Doers.length e10))
  simp only [Nat.add_zero, List.set_cons_zero, List.set_cons_succ] at BK
  have TK := (((((((((((Turn.refl [gg] W3).set (p := ⟨gg, k * 10, none⟩) (by simp) (.int .i64 n'.Id)).set (p := ⟨gg, k * 10 + 1, none⟩) (by simp) (.int .i64 n'.Size)).set (p := ⟨gg, k * 10 + 2, none⟩) (by simp) (.int .i64 n'.View)).set (p := ⟨gg, k * 10 + 3, none⟩) (by simp) (.bool n'.Normal)).set (p := ⟨gg, k * 10 + 4, none⟩) (by simp) (.int .i64 n'.Last)).set (p := ⟨gg, k * 10 + 5, none⟩) (by simp) (.slice R6 n'.Log.length e6)).set (p := ⟨gg, k * 10 + 6, none⟩) (by simp) (.int .i64 n'.Commit)).set (p := ⟨gg, k * 10 + 7, none⟩) (by simp) (.slice R8 n'.Oks.length e8)).set (p := ⟨gg, k * 10 + 8, none⟩) (by simp) (.slice R9 n'.Asks.length e9)).set (p := ⟨gg, k * 10 + 9, none⟩) (by simp) (.slice R10 n'.Doers.length e10))
  clear hD
  generalize ((((((((((W3.setCell ⟨gg, k * 10, none⟩ (.int .i64 n'.Id)).setCell ⟨gg, k * 10 + 1, none⟩ (.int .i64 n'.Size)).setCell ⟨gg, k * 10 + 2, none⟩ (.int .i64 n'.View)).setCell ⟨gg, k * 10 + 3, none⟩ (.bool n'.Normal)).setCell ⟨gg, k * 10 + 4, none⟩ (.int .i64 n'.Last)).setCell ⟨gg, k * 10 + 5, none⟩ (.slice R6 n'.Log.length e6)).setCell ⟨gg, k * 10 + 6, none⟩ (.int .i64 n'.Commit)).setCell ⟨gg, k * 10 + 7, none⟩ (.slice R8 n'.Oks.length e8)).setCell ⟨gg, k * 10 + 8, none⟩ (.slice R9 n'.Asks.length e9)).setCell ⟨gg, k * 10 + 9, none⟩ (.slice R10 n'.Doers.length e10)) = U at BK TK ⊢
  with_reducible refine at_world (fun W => Blk W gg 29 (l1 ++ [.int .i64 n'.Id, .int .i64 n'.Size, .int .i64 n'.View, .bool n'.Normal, .int .i64 n'.Last, .slice R6 n'.Log.length e6, .int .i64 n'.Commit, .slice R8 n'.Oks.length e8, .slice R9 n'.Asks.length e9, .slice R10 n'.Doers.length e10] ++ l2) ∧ Turn [gg] W3 W) ⟨BK, TK⟩ ?_
  rintro W4 ⟨K4, t4⟩
  clear BK TK hKk U
  have lgg : gg ∈ f0 := by rw [EF.out]; exact List.mem_cons_self
  have igg := i0 gg lgg
  have s43 := t4.size
  have n1 : ∀ y ∈ f1, y ≠ gg := fun y hy h => d012 gg lgg y (List.mem_append_left _ hy) h.symm
  have n2 : ∀ y ∈ f2, y ≠ gg := fun y hy h => d012 gg lgg y (List.mem_append_right _ hy) h.symm
  have j6 := g6.in
  have j8 := g8.in
  have j9 := g9.in
  have j10 := g10.in
  have T34 : Turn [gg] w W4 := (Turn.of_below bw3).trans t4
  have bw4 : Below w.heap.size w W4 := bw3.trans (t4.below (B := w.heap.size) (by simp; omega) (by have := bw3.size; omega))
  have jG : ∀ y ∈ f6 ++ (f8 ++ (f9 ++ f10)), y < w.heap.size := fun y hy => by
    simp only [List.mem_append] at hy
    rcases hy with h | h | h | h
    · exact (j6 y h).2
    · exact (j8 y h).2
    · exact (j9 y h).2
    · exact (j10 y h).2
  have nfa : ∀ y, y ∈ fa ∨ y ∈ fz → y ∈ f0 ∧ y ≠ gg := fun y hy => ⟨by rw [EF.out]; rcases hy with h | h <;> simp [h], fun h => nd_g (EF.out ▸ nd0) (h ▸ hy)⟩
  have nodesW := wand W4 _ _ n' K4 (kReplica_ownmk n' (h5 := OwnS.bel' g6 bw4) (h7 := OwnS.bel' g8 bw4) (h8 := OwnS.bel' g9 bw4) (h9 := OwnS.bel' g10 bw4)) (fun y hy => t4.block y (by have := (i0 y (nfa y hy).1).2; omega) (by simp; exact (nfa y hy).2))
  have eL : L = c.Nodes.length := by rw [← HL.out, ← EN.out]
  have nodes4 : OwnS kReplica 29 B W4 (gg :: (fa ++ ((f6 ++ (f8 ++ (f9 ++ f10))) ++ fz))) (.slice (some ⟨gg, 0, none⟩) c.Nodes.length d0) (c.Nodes.set k n') := by
    rw [List.set_eq_take_append_cons_drop, if_pos hk, ← eL]; exact nodesW
  clear nodesW eL HL EN wand
  have mails4 := OwnS.turn o1 t4 (fun y hy hm => n1 y hy (by simpa using hm))
  have ends4 := OwnS.turn o2 t4 (fun y hy hm => n2 y hy (by simpa using hm))
  have yB4 := yB.turn t4 (by simp; omega)
  have rB4 := rB.turn t4 (by simp; omega)
  have zB4 := zB.turn t4 (by simp; omega)
  clear o1 o2 yB rB zB
  have rlog := (ownS_rds g6).1
  have FNin : ∀ y ∈ gg :: (fa ++ ((f6 ++ (f8 ++ (f9 ++ f10))) ++ fz)), (y ∈ f0 ∨ y < w.heap.size) ∧ y < w1.heap.size := fun y hy => by
    simp only [List.mem_cons, List.mem_append] at hy
    rcases hy with h | h | h | h
    · exact ⟨.inl (h ▸ lgg), by omega⟩
    · exact ⟨.inl (nfa y (.inl h)).1, (i0 y (nfa y (.inl h)).1).2⟩
    · have := jG y (by simpa only [List.mem_append] using h); exact ⟨.inr this, by omega⟩
    · exact ⟨.inl (nfa y (.inr h)).1, (i0 y (nfa y (.inr h)).1).2⟩
  have ndFN : (gg :: (fa ++ ((f6 ++ (f8 ++ (f9 ++ f10))) ++ fz))).Nodup := nd_older (EF.out ▸ nd0) ndG (m := w.heap.size) (fun y hy => by have := (i0 y (by rw [EF.out]; exact hy)).1; omega) jG
  generalize hFN : gg :: (fa ++ ((f6 ++ (f8 ++ (f9 ++ f10))) ++ fz)) = FN at FNin ndFN nodes4
  have lw1 : w1.heap.size < W4.heap.size := by omega
  have FT : ∀ y ∈ FN, y ∉ w1.heap.size :: f1 := fun y hy h => by
    have h3 := FNin y hy
    rcases List.mem_cons.1 h with h | h
    · omega
    · have := i1 y h
      rcases h3.1 with h0 | h0
      · exact d012 y h0 y (List.mem_append_left _ h) rfl
      · omega
  have FN2 : ∀ y ∈ FN, y ∉ f2 := fun y hy h => by
    have := i2 y h
    rcases (FNin y hy).1 with h0 | h0
    · exact d012 y h0 y (List.mem_append_right _ h) rfl
    · omega
  clear g6 g8 g9 g10 hFN
  go_wp2_with fail
  go_loopw [8] (fun j W => ∃ m : Nat, m ≤ ms.length ∧ m ≤ 120 - c.Mails.length ∧ j = .int .i64 m ∧ ∃ vv fq, OwnS kMail 51 B W fq vv (c.Mails ++ ms.take m) ∧ fq.Nodup ∧ Blk W w1.heap.size 42 [.slice (some ⟨gg, 0, none⟩) c.Nodes.length d0, vv, .slice B2 c.Sealed.length d2] ∧ Turn (w1.heap.size :: f1) W4 W ∧ ∀ y ∈ fq, y ∈ f1 ∨ W4.heap.size ≤ y) (fun j _ => ms.length - (intOf j).toNat)
  case atStart => exact ⟨0, Nat.zero_le _, Nat.zero_le _, rfl, _, f1, by simpa using mails4, nd1, yB4, Turn.refl _ _, fun y hy => .inl hy⟩
  case round =>
    obtain ⟨m, hm, hmc, rfl, vv, fq, ow, ndq, yK, ht, hfr⟩ := hrel
    obtain ⟨AV, cV, rfl, _⟩ := ow.form
    have sT := ht.size
    have hin := ow.in
    have lyK := yK.lt
    have hlen : (c.Mails ++ ms.take m).length = c.Mails.length + m := by rw [List.length_append, List.length_take, Nat.min_eq_left hm]
    have b4r : Below w.heap.size W4 wr := ht.below (fun y hy => by rcases List.mem_cons.1 hy with h | h; omega; have := i1 y h; omega) (by omega)
    have rBr := rB4.turn ht (by simp only [List.mem_cons, not_or]; exact ⟨by omega, fun h => by have := i1 _ h; omega⟩)
    have q11 := rBr.cell (j := 11) rfl
    have bq : w1.heap.size ∉ fq := fun h => by
      rcases hfr _ h with h | h
      · have := i1 _ h; omega
      · omega
    by_cases hgo : m < ms.length ∧ m < 120 - c.Mails.length
    · obtain ⟨hlt, hful⟩ := hgo
      have hlt2 : (m : Int) < (ms.length : Int) := by omega
      generalize hys : c.Mails ++ ms.take m = ys at ow hlen yK
      have hl120 : ys.length < 120 := by omega
      have hd120 : decide ((ys.length : Int) < 120) = true := decide_eq_true (by omega)
      have v1 := yK.cell (j := 1) rfl
      obtain ⟨a, ea, hx⟩ := (g11.below (bw4.trans b4r)).at_ hlt
      subst ea
      have hsm := hms.2 _ (List.getElem_mem hlt)
      have htk := Lib.hid (show c.Mails ++ ms.take (m + 1) = ys ++ [ms[m]] by rw [List.take_succ_eq_append_getElem hlt, ← List.append_assoc, hys])
      generalize ms[m] = mm at hx hsm htk
      simp only [show kMail.sz = 15 from rfl] at hx
      obtain ⟨E13, x13, hq⟩ := atMail hx
      obtain ⟨q0, q1, q2, q3, q4, q5, q6, q7, q8, q9, q10, u11, q12, q13, q14, g13⟩ := hq
      have HLN := Lib.hid hlen
      have HYS := Lib.hid hys
      clear hlen hys hx
      go_upto_region 8 with fail
      have z1 := yK.frozen 1
      go_region_law (first | (refine step_app (d := kMail) (zs := [mm]) (ys := ys) (fp := fq) (fs := fl) (v := .slice AV ys.length cV) (x := .slice (some ⟨w5.heap.size, 0, none⟩) 1 1) (ce := [.int .i64 mm.Kind, .int .i64 mm.From, .int .i64 mm.To, .int .i64 mm.View, .int .i64 mm.At, .bool mm.Has, .int .i64 mm.Entry.Client, .int .i64 mm.Entry.Seq, .int .i64 mm.Entry.Op.Kind, .int .i64 mm.Entry.Op.Vol, .int .i64 mm.Entry.Op.At, .int .i64 mm.Entry.Op.Value, .int .i64 mm.Last, .slice F13 mm.Log.length i13, .int .i64 mm.Commit]) (B := B) rfl (.tmp 37) (.tmp 44) 31 51 rfl (by kernel_rfl) (by kernel_rfl) (by simp [Act.eval, Act.put]) (by simp [Act.eval, Act.put]) (OwnS.keep ow5 (fun b hb => Below.heap_alloc w5 _ _ (ow5.in b hb).2)) ndq (Src.ofSlice (P := Tryz.prog) (e' := 51) _ (by kernel_rfl) ⟨w5.heap.size, 0, none⟩ 1 1 _ rfl (lies_alloc w5 #[.int .i64 mm.Kind, .int .i64 mm.From, .int .i64 mm.To, .int .i64 mm.View, .int .i64 mm.At, .bool mm.Has, .int .i64 mm.Entry.Client, .int .i64 mm.Entry.Seq, .int .i64 mm.Entry.Op.Kind, .int .i64 mm.Entry.Op.Vol, .int .i64 mm.Entry.Op.At, .int .i64 mm.Entry.Op.Value, .int .i64 mm.Last, .slice F13 mm.Log.length i13, .int .i64 mm.Commit] 51) (kMail.rd_one (kMail.own_rd oL))) (OwnL.single oL) nl hdN (by simp; omega) (by show _ ≤ (w5.alloc _).heap.size; rw [Deep.nblk_alloc]; omega) ?_; intro v' w' fp' hgr; obtain ⟨r1, r2, r3, r4⟩ := hgr; obtain ⟨AA, cA, rfl, _⟩ := r1.form; have yA := y6.keep (w' := w') (r3.block _ y6.lt bq); have qA := yA.cell (j := 1) rfl; have fA := yA.frozen 1) | ((try go_simp); go_at_call 202; refine (l11Mail_c mm E13 x13 _ (g13.below (by repeat (first | (with_reducible assumption) | (with_reducible exact Below.refl _ _) | (with_reducible apply below_alloc) | (with_reducible apply below_drewN) | (with_reducible apply Below.drew) | (with_reducible refine below_set ?_ (by dsimp only; omega) _) | (with_reducible refine below_trans ?_ (by assumption))))) hsm).mono ?_; rintro e w5 ⟨F13, i13, fl, rfl, ol, nl, hb5⟩; have b5 : Below wr.heap.size wr w5 := (below_trans (Below.refl _ _).drew hb5); have y5 := yK.below b5; have v5 := y5.cell (j := 1) rfl; have zz5 := y5.frozen 1; have y6 := y5.below (below_alloc (Below.refl _ _) (.cells #[.int .i64 mm.Kind, .int .i64 mm.From, .int .i64 mm.To, .int .i64 mm.View, .int .i64 mm.At, .bool mm.Has, .int .i64 mm.Entry.Client, .int .i64 mm.Entry.Seq, .int .i64 mm.Entry.Op.Kind, .int .i64 mm.Entry.Op.Vol, .int .i64 mm.Entry.Op.At, .int .i64 mm.Entry.Op.Value, .int .i64 mm.Last, .slice F13 mm.Log.length i13, .int .i64 mm.Commit] 51)); have v6 := y6.cell (j := 1) rfl; have ow5 := OwnS.bel' ow b5; have s5 := b5.size; have il : ∀ b ∈ fl, wr.heap.size ≤ b := fun b hb => (ol.in b hb).1; have oL : kMail.Own B (w5.alloc (.cells #[.int .i64 mm.Kind, .int .i64 mm.From, .int .i64 mm.To, .int .i64 mm.View, .int .i64 mm.At, .bool mm.Has, .int .i64 mm.Entry.Client, .int .i64 mm.Entry.Seq, .int .i64 mm.Entry.Op.Kind, .int .i64 mm.Entry.Op.Vol, .int .i64 mm.Entry.Op.At, .int .i64 mm.Entry.Op.Value, .int .i64 mm.Last, .slice F13 mm.Log.length i13, .int .i64 mm.Commit] 51)) fl [.int .i64 mm.Kind, .int .i64 mm.From, .int .i64 mm.To, .int .i64 mm.View, .int .i64 mm.At, .bool mm.Has, .int .i64 mm.Entry.Client, .int .i64 mm.Entry.Seq, .int .i64 mm.Entry.Op.Kind, .int .i64 mm.Entry.Op.Vol, .int .i64 mm.Entry.Op.At, .int .i64 mm.Entry.Op.Value, .int .i64 mm.Last, .slice F13 mm.Log.length i13, .int .i64 mm.Commit] mm := kMail_ownmk mm (h13 := OwnS.lift (OwnS.keep ol (fun b hb => Below.heap_alloc _ _ _ (ol.in b hb).2)) (fun b hb => by have := il b hb; omega)); have hdN : ∀ b ∈ fq, b ∉ fl := fun b hb hm => by have := (hin b hb).2; have := il b hm; omega))
      all_goals (go_wp2_with fail)
      all_goals
        have hfr' : ∀ y ∈ fp', y ∈ f1 ∨ W4.heap.size ≤ y := fun y hy => by
          rcases r4 y hy with h | h | h
          · exact hfr y h
          · have := il y h; right; omega
          · right; refine Nat.le_trans ?_ h; show _ ≤ (w5.alloc _).heap.size; rw [Deep.nblk_alloc]; omega
        have hb' : w1.heap.size ∉ fp' := fun h => by
          rcases hfr' _ h with h | h
          · have := i1 _ h; omega
          · omega
        rw [show (ys ++ [mm]).length = ys.length + 1 by simp, ← htk.out] at r1
        have hT : Turn (w1.heap.size :: f1) W4 w' := Turn.fresh (ht.trans (Turn.of_below (below_alloc b5 _))) r3 (fun y hy => by
          rcases hfr y hy with h | h
          · exact .inl (List.mem_cons_of_mem _ h)
          · exact .inr h)
        refine ⟨⟨m + 1, hlt, hful, by go_num, .slice AA (ys.length + 1) cA, fp', OwnS.turn r1 ((Turn.refl [w1.heap.size] w').set (p := ⟨w1.heap.size, 1, none⟩) (by simp) _) (fun y hy hm => hb' (by simp at hm; exact hm ▸ hy)), r2, yA.set0 1 _, hT.set (p := ⟨w1.heap.size, 1, none⟩) (by simp) _, hfr'⟩, by simp [intOf]; omega⟩
    · have htk : ms.take m = ms.take (120 - c.Mails.length) := by
        by_cases h : m < ms.length
        · have : m = 120 - c.Mails.length := by omega
          rw [this]
        · rw [List.take_of_length_le (by omega), List.take_of_length_le (by omega)]
      have hv : decide (m < ms.length) = false ∨ (decide (m < ms.length) = true ∧ decide (((c.Mails ++ ms.take m).length : Int) < 120) = false) := by
        by_cases h : m < ms.length
        · right; exact ⟨decide_eq_true h, decide_eq_false (by omega)⟩
        · left; exact decide_eq_false h
      rw [htk] at ow yK hv
      generalize hys : c.Mails ++ ms.take (120 - c.Mails.length) = ys at ow yK hv
      have HYS := Lib.hid hys
      clear hys htk hlen hgo
      have endr := OwnS.turn ends4 ht (fun y hy h => by
        rcases List.mem_cons.1 h with h | h
        · have := i2 y hy; omega
        · exact d12 y h y hy rfl)
      have nodesr := OwnS.turn nodes4 ht FT
      have zBr := zB4.turn ht (by simp only [List.mem_cons, not_or]; exact ⟨by omega, fun h => by have := i1 _ h; omega⟩)
      have FNq : ∀ y ∈ FN, y ∉ fq := fun y hy h => by
        rcases hfr y h with h | h
        · exact FT y hy (List.mem_cons_of_mem _ h)
        · have := (FNin y hy).2; omega
      have q2 : ∀ y ∈ fq, y ∉ f2 := fun y hy h => by
        have := i2 y h
        rcases hfr y hy with h1 | h1
        · exact d12 y h1 y h rfl
        · omega
      have bwr := bw4.trans b4r
      have hqin := ow.in
      have FNlt : ∀ y ∈ FN, y < wr.heap.size := fun y hy => by have := (FNin y hy).2; omega
      have v0 := yK.cell (j := 0) rfl
      have v1 := yK.cell (j := 1) rfl
      have v2 := yK.cell (j := 2) rfl
      have z2 := yK.frozen 2
      have c6 := rBr.cell (j := 6) rfl
      have c7 := rBr.cell (j := 7) rfl
      have r0 := zBr.cell (j := 0) rfl
      have r1 := zBr.cell (j := 1) rfl
      have r2 := zBr.cell (j := 2) rfl
      have r3 := zBr.cell (j := 3) rfl
      have w0 := zBr.frozen 0
      have w1' := zBr.frozen 1
      have w2' := zBr.frozen 2
      have w3' := zBr.frozen 3
      by_cases hcm : (c.Sealed.length : Int) < n'.Commit
      · have eX : doneClu c k n' ms = ⟨c.Nodes.set k n', c.Mails ++ ms.take (120 - c.Mails.length), n'.Log.take n'.Commit.toNat⟩ := by unfold doneClu; rw [if_pos hcm]
        have HX := Lib.hid eX
        clear eX
        obtain ⟨cm, ecm⟩ := Int.eq_ofNat_of_zero_le hc0
        have hcl : cm ≤ n'.Log.length := by omega
        have hpos : 0 < cm := by omega
        have hcd : decide ((c.Sealed.length : Int) < (cm : Int)) = true := decide_eq_true (by omega)
        have hcn : decide (c.Sealed.length < cm) = true := decide_eq_true (by omega)
        rw [ecm] at c7
        have ECM := Lib.hid ecm
        clear ecm hcm
        obtain ⟨a, eC5⟩ : ∃ a, R6 = some a := by
          cases R6 with
          | none => have := rdS_none rlog; rw [this] at hcl; simp at hcl; omega
          | some a => exact ⟨a, rfl⟩
        subst eC5
        have hcap : cm ≤ e6 := Nat.le_trans hcl rlog.1
        have hmx := rlog.2.1
        have hcC := fun (W : World) (hW : RdS kEntry W (some a) e6 n'.Log) => l8Copy_c (n'.Log.take cm) (some a) e6 W (hW.take cm) (by rw [List.length_take]; have := hs'.1; omega)
        rw [List.length_take, Nat.min_eq_left hcl] at hcC
        have HCC := Lib.hid (hcC wr (rlog.below bwr))
        clear hcC
        rcases hv with hv | ⟨hv, hv2⟩
        all_goals (go_wp2_with fail)
        all_goals
          refine HCC.out.mono ?_
          rintro r w6 ⟨A6, c6', f6', er, p6, nf6, hb6⟩
          rw [List.length_take, Nat.min_eq_left hcl] at er p6
          subst er
          have y6 := yK.below hb6
          have zr6 := zBr.below hb6
          clear v0 v1 v2 z2 c6 c7 r0 r1 r2 r3 w0 w1' w2' w3'
          have v0 := y6.cell (j := 0) rfl
          have v1 := y6.cell (j := 1) rfl
          have v2 := y6.cell (j := 2) rfl
          have z2 := y6.frozen 2
          have r0 := zr6.cell (j := 0) rfl
          have r1 := zr6.cell (j := 1) rfl
          have r2 := zr6.cell (j := 2) rfl
          have r3 := zr6.cell (j := 3) rfl
          have w0 := zr6.frozen 0
          have w1' := zr6.frozen 1
          have w2' := zr6.frozen 2
          have w3' := zr6.frozen 3
          have k6 : ∀ y ∈ f6', wr.heap.size ≤ y := fun y hy => (p6.in y hy).1
          have HLC := Lib.hid hcl
          clear HCC hcl
          have fin : ∀ W', Turn [w1.heap.size, w.heap.size + 2] w6 W' → BasedCR B ⟨0, doneClu c k n' ms⟩ w (.returned (.agg #[.int .i64 0, .slice (some ⟨gg, 0, none⟩) c.Nodes.length d0, .slice AV ys.length cV, .slice A6 cm c6'])) W' := by
            intro W' tS
            rw [HX.out, ECM.out, show Int.toNat (cm : Int) = cm from rfl, HYS.out]
            have q0 := OwnS.turn (OwnS.bel' nodesr hb6) tS (fun y hy h => by simp at h; have h3 := FNin y hy; rcases h3.1 with h0 | h0; have := i0 y h0; omega; omega)
            have q1 := OwnS.turn (OwnS.bel' ow hb6) tS (fun y hy h => by simp at h; rcases h with h | h; exact bq (h ▸ hy); rcases hfr y hy with h1 | h1; have := i1 y h1; omega; omega)
            have q3 := (OwnS.turn p6 tS (fun y hy h => by simp at h; have := k6 y hy; omega)).lift (B' := B) (fun y hy => by have := k6 y hy; omega)
            refine ⟨some ⟨gg, 0, none⟩, d0, AV, cV, A6, c6', FN, fq, f6', by simp [Nat.min_eq_left HLC.out], ⟨by simpa using q0, q1, by simpa [Nat.min_eq_left HLC.out] using q3, ?_⟩, (below_trans bwr hb6).trans (tS.below (by simp; omega) (by have := bwr.size; have := hb6.size; omega))⟩
            exact List.nodup_append.2 ⟨ndFN, List.nodup_append.2 ⟨ndq, nf6, fun y hy z hz e => by have := k6 z hz; have := (hqin y hy).2; omega⟩, fun y hy z hz e => by
              rcases List.mem_append.1 hz with h | h
              · exact FNq y hy (e ▸ h)
              · have := k6 z h; have := FNlt y hy; omega⟩
          go_wp2_with fail
          refine bodyPost_ret (v := .agg #[.int .i64 0, .slice (some ⟨gg, 0, none⟩) c.Nodes.length d0, .slice AV ys.length cV, .slice A6 cm c6']) (by simp [results, Tryz.results188, go_sem, r0, r1, r2, r3]) rfl (fin _ ?_)
          repeat (first | (with_reducible exact Turn.refl _ _) | (with_reducible refine Turn.set ?_ (by simp) _))
      · have hcd : decide ((c.Sealed.length : Int) < n'.Commit) = false := decide_eq_false hcm
        have eX : doneClu c k n' ms = ⟨c.Nodes.set k n', c.Mails ++ ms.take (120 - c.Mails.length), c.Sealed⟩ := by unfold doneClu; rw [if_neg hcm]
        have HX := Lib.hid eX
        clear eX hcm
        have fin : ∀ W', Turn [w1.heap.size, w.heap.size + 2] wr W' → BasedCR B ⟨0, doneClu c k n' ms⟩ w (.returned (.agg #[.int .i64 0, .slice (some ⟨gg, 0, none⟩) c.Nodes.length d0, .slice AV ys.length cV, .slice B2 c.Sealed.length d2])) W' := by
          intro W' tS
          rw [HX.out, HYS.out]
          have q0 := OwnS.turn nodesr tS (fun y hy h => by simp at h; have h3 := FNin y hy; rcases h3.1 with h0 | h0; have := i0 y h0; omega; omega)
          have q1 := OwnS.turn ow tS (fun y hy h => by simp at h; rcases h with h | h; exact bq (h ▸ hy); rcases hfr y hy with h1 | h1; have := i1 y h1; omega; omega)
          have q3 := OwnS.turn endr tS (fun y hy h => by simp at h; have := i2 y hy; omega)
          refine ⟨some ⟨gg, 0, none⟩, d0, AV, cV, B2, d2, FN, fq, f2, by simp, ⟨by simpa using q0, q1, q3, ?_⟩, bwr.trans (tS.below (by simp; omega) (by have := bwr.size; omega))⟩
          exact List.nodup_append.2 ⟨ndFN, List.nodup_append.2 ⟨ndq, nd2, fun y hy z hz e => q2 y hy (e ▸ hz)⟩, fun y hy z hz e => by
            rcases List.mem_append.1 hz with h | h
            · exact FNq y hy (e ▸ h)
            · exact FN2 y hy (e ▸ h)⟩
        rcases hv with hv | ⟨hv, hv2⟩
        all_goals (go_wp2_with fail)
        all_goals
          refine bodyPost_ret (v := .agg #[.int .i64 0, .slice (some ⟨gg, 0, none⟩) c.Nodes.length d0, .slice AV ys.length cV, .slice B2 c.Sealed.length d2]) (by simp [results, Tryz.results188, go_sem, r0, r1, r2, r3]) rfl (fin _ ?_)
          repeat (first | (with_reducible exact Turn.refl _ _) | (with_reducible refine Turn.set ?_ (by simp) _))
end Go.Proofs.YtdjfehjddfbbjaaGreat
