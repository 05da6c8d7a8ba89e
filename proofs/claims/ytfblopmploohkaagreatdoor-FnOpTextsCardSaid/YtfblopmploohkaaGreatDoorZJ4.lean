/- A node of a cluster does something: (*Cluster).do (written by gJ4.py, own work). -/
import Derived.Test.YtfblopmploohkaaGreatDoorZJ
import Derived.Test.YtfblopmploohkaaGreatDoorZK
import Derived.Test.YtfblopmploohkaaGreatDoorZK2
set_option linter.unusedVariables false
set_option linter.unusedSimpArgs false
namespace Go.Proofs.YtfblopmploohkaaGreatDoor
open Go Go.RowKit Mk
def doneClu (x : SCluster) (k : Nat) (n' : SReplica) (ms : List SMail) : SCluster :=
  ⟨x.Nodes.set k n', x.Mails ++ ms.take (120 - x.Mails.length), if (x.Sealed.length : Int) < n'.Commit then n'.Log.take n'.Commit.toNat else x.Sealed⟩
def DidClu (b : Nat) (x' : SCluster) (code : Int) (fp : List Nat) (B : Nat) (w : World) (r : Ending) (w' : World) : Prop :=
  ∃ A0 c0 A1 c1 A2 c2 f0 f1 f2, r = .returned (.int .i64 code) ∧ Blk w' b 34 [.slice A0 x'.Nodes.length c0, .slice A1 x'.Mails.length c1, .slice A2 x'.Sealed.length c2] ∧ HasCluster B w' x' A0 c0 A1 c1 A2 c2 f0 f1 f2 ∧
    b ∉ f0 ++ (f1 ++ f2) ∧ Turn (b :: fp) w w' ∧ ∀ y ∈ f0 ++ (f1 ++ f2), y ∈ fp ∨ w.heap.size ≤ y
set_option maxRecDepth 100000 in
set_option maxHeartbeats 4000000 in
theorem do_c (g : Nat) (cb : Array Value) (eg : ∀ args w, (callFunc g args).run Tryz.prog w = .ok (.enter g args) w) (b k : Nat) (x : SCluster) (n n' : SReplica) (ms : List SMail) (A0 : Option Addr) (c0 : Nat) (A1 : Option Addr) (c1 : Nat) (A2 : Option Addr) (c2 : Nat) (f0 f1 f2 : List Nat) (B : Nat) (w : World) (hB : Blk w b 34 [.slice A0 x.Nodes.length c0, .slice A1 x.Mails.length c1, .slice A2 x.Sealed.length c2]) (hx : HasCluster B w x A0 c0 A1 c1 A2 c2 f0 f1 f2)
    (hb : b ∉ f0 ++ (f1 ++ f2)) (hBw : B ≤ w.heap.size) (hk : k < x.Nodes.length) (hn : x.Nodes[k] = n) (hs : SmallRep n) (hN : x.Nodes.length ≤ 5) (hM : x.Mails.length ≤ 120) (hms : ms.length ≤ 1000) (hd : Does g cb n n' ms 0 w) (hc0 : 0 ≤ n'.Commit) (hc1 : n'.Commit ≤ n'.Log.length) (hl : n'.Log.length ≤ 1048576) :
    Calls Tryz.prog 99 #[.pointer (some ⟨b, 0, none⟩), .int .i64 k, .func (.func g) #[] cb] w fun r w' => DidClu b (doneClu x k n' ms) 0 (f0 ++ (f1 ++ f2)) B w r w' := by
  obtain ⟨h0, h1, h2, nd⟩ := hx
  have i0 := h0.in
  have i1 := h1.in
  have i2 := h2.in
  have hlt' : (k : Int) < (x.Nodes.length : Int) := by omega
  have lB := hB.lt
  have q := hB.cell (j := 0) rfl
  obtain ⟨a, ea, hx⟩ := ((ownS_rds h0).1).at_ hk
  subst ea
  rw [hn] at hx
  simp only [show kReplica.sz = 10 from rfl] at hx
  obtain ⟨E5, e5, E7, e7, E8, e8, E9, e9, hq⟩ := atReplica hx
  obtain ⟨q0, q1, q2, q3, q4, q5, q6, q7, q8, q9, g5, g7, g8, g9⟩ := hq
  have HN := Lib.hid hn
  clear hn
  go_enter Tryz.func99, Tryz.ntmps99
  go_wp2_with fail
  clear q q0 q1 q2 q3 q4 q5 q6 q7 q8 q9
  refine (ownReplica_c n E5 e5 E7 e7 E8 e8 E9 e9 w g5 g7 g8 g9 hs).mono ?_
  rintro r w1 ⟨B5, d5, B7, d7, B8, d8, B9, d9, f5, f7, f8, f9, rfl, hn1, hb1⟩
  have s1 := hb1.size
  have k5 := hn1.1.in
  have k7 := hn1.2.1.in
  have k8 := hn1.2.2.1.in
  have k9 := hn1.2.2.2.1.in
  go_upto_region 2 with fail
  refine at_world (fun W => Blk W w1.heap.size 60 [.int .i64 n.Id, .int .i64 n.Size, .int .i64 n.View, .bool n.Normal, .int .i64 n.Last, .slice B5 n.Log.length d5, .int .i64 n.Commit, .slice B7 n.Oks.length d7, .slice B8 n.Asks.length d8, .slice B9 n.Doers.length d9] ∧ HasReplica w.heap.size W n B5 d5 B7 d7 B8 d8 B9 d9 f5 f7 f8 f9 ∧ Below w.heap.size w W ∧ w1.heap.size < W.heap.size) ⟨blk_alloc w1 [.int .i64 n.Id, .int .i64 n.Size, .int .i64 n.View, .bool n.Normal, .int .i64 n.Last, .slice B5 n.Log.length d5, .int .i64 n.Commit, .slice B7 n.Oks.length d7, .slice B8 n.Asks.length d8, .slice B9 n.Doers.length d9] _, ⟨OwnS.keep hn1.1 (fun b hb => Below.heap_alloc _ _ _ (k5 b hb).2), OwnS.keep hn1.2.1 (fun b hb => Below.heap_alloc _ _ _ (k7 b hb).2), OwnS.keep hn1.2.2.1 (fun b hb => Below.heap_alloc _ _ _ (k8 b hb).2), OwnS.keep hn1.2.2.2.1 (fun b hb => Below.heap_alloc _ _ _ (k9 b hb).2), hn1.2.2.2.2⟩, below_alloc hb1 _, by rw [Deep.nblk_alloc]; omega⟩ ?_
  rintro W2 ⟨nB, hn2, b2, s2⟩
  clear hn1 hb1
  have hnb : w1.heap.size ∉ f5 ++ (f7 ++ (f8 ++ f9)) := by
    simp only [List.mem_append, not_or]
    exact ⟨fun h => by have := (k5 _ h).2; omega, fun h => by have := (k7 _ h).2; omega, fun h => by have := (k8 _ h).2; omega, fun h => by have := (k9 _ h).2; omega⟩
  have hfl : ∀ y ∈ w1.heap.size :: (f5 ++ (f7 ++ (f8 ++ f9))), w.heap.size ≤ y := by
    intro y hy
    simp only [List.mem_cons, List.mem_append] at hy
    rcases hy with rfl | h | h | h | h
    · omega
    · exact (k5 y h).1
    · exact (k7 y h).1
    · exact (k8 y h).1
    · exact (k9 y h).1
  go_wp2_with fail
  refine (hd w1.heap.size B5 d5 B7 d7 B8 d8 B9 d9 f5 f7 f8 f9 w.heap.size W2 b2 nB hn2 hnb (by have := b2.size; omega)).mono ?_
  rintro r w3 ⟨C5, o5, C7, o7, C8, o8, C9, o9, g5', g7', g8', g9', As, cs, fs, rfl, oB3, hn3, hm3, nd3, nb3, t3, fr3⟩
  have b3 : Below w.heap.size w w3 := b2.trans (t3.below hfl (by have := b2.size; omega))
  go_upto_region 5 with fail
  have h0' := OwnS.bel' h0 (b3.mono (Nat.le_refl _))
  have eN : x.Nodes = x.Nodes.take k ++ n :: x.Nodes.drop (k + 1) := by
    rw [← HN.out, ← List.drop_eq_getElem_cons hk, List.take_append_drop]
  have nd0 : f0.Nodup := (List.nodup_append.1 nd).1
  have hlk : (x.Nodes.take k).length = k := by rw [List.length_take, Nat.min_eq_left (by omega)]
  rw [eN] at h0'
  generalize hL : (x.Nodes.take k ++ n :: x.Nodes.drop (k + 1)).length = L at h0'
  obtain ⟨gg, fe, fa, fz, l1, ce, l2, eA, hn', ef, hc1, hK, hO, wand⟩ := h0'.zoom nd0
  simp only [Option.some.injEq] at eA
  subst eA
  rw [hlk] at hc1
  have hc : l1.length = k * 10 := hc1
  obtain ⟨D5, m5, D7, m7, D8, m8, D9, m9, v5, v7, v8, v9, rfl, rfl, _, _, _, _⟩ := kReplica_own hO
  have bB := hB.below b3
  have q := bB.cell (j := 0) rfl
  have u0 := oB3.cell (j := 0) rfl
  have u1 := oB3.cell (j := 1) rfl
  have u2 := oB3.cell (j := 2) rfl
  have u3 := oB3.cell (j := 3) rfl
  have u4 := oB3.cell (j := 4) rfl
  have u5 := oB3.cell (j := 5) rfl
  have u6 := oB3.cell (j := 6) rfl
  have u7 := oB3.cell (j := 7) rfl
  have u8 := oB3.cell (j := 8) rfl
  have u9 := oB3.cell (j := 9) rfl
  have K0 := hK.mid hc (j := 0) rfl
  have K1 := hK.mid hc (j := 1) rfl
  have K2 := hK.mid hc (j := 2) rfl
  have K3 := hK.mid hc (j := 3) rfl
  have K4 := hK.mid hc (j := 4) rfl
  have K5 := hK.mid hc (j := 5) rfl
  have K6 := hK.mid hc (j := 6) rfl
  have K7 := hK.mid hc (j := 7) rfl
  have K8 := hK.mid hc (j := 8) rfl
  have K9 := hK.mid hc (j := 9) rfl
  have Z0 := hK.frozen (k * 10 + 0)
  have Z1 := hK.frozen (k * 10 + 1)
  have Z2 := hK.frozen (k * 10 + 2)
  have Z3 := hK.frozen (k * 10 + 3)
  have Z4 := hK.frozen (k * 10 + 4)
  have Z5 := hK.frozen (k * 10 + 5)
  have Z6 := hK.frozen (k * 10 + 6)
  have Z7 := hK.frozen (k * 10 + 7)
  have Z8 := hK.frozen (k * 10 + 8)
  have Z9 := hK.frozen (k * 10 + 9)
  have EN := Lib.hid eN
  have HL := Lib.hid hL
  have HC := Lib.hid hc
  have HNL := Lib.hid hn'
  have EF := Lib.hid ef
  have hKk := Lib.hid hK
  clear eN hL hc hc1 hlk hn' ef hK
  simp only [Nat.add_zero] at K0 Z0
  go_still_tail 7, (by kernel_rfl)
  go_upto_region 6 with fail
  clear q u0 u1 u2 u3 u4 u5 u6 u7 u8 u9 K0 K1 K2 K3 K4 K5 K6 K7 K8 K9 Z0 Z1 Z2 Z3 Z4 Z5 Z6 Z7 Z8 Z9
  have hD : Blk w3 gg 60 (l1 ++ [.int .i64 n.Id, .int .i64 n.Size, .int .i64 n.View, .bool n.Normal, .int .i64 n.Last, .slice D5 n.Log.length m5, .int .i64 n.Commit, .slice D7 n.Oks.length m7, .slice D8 n.Asks.length m8, .slice D9 n.Doers.length m9] ++ l2) := hKk.out
  have BK := ((((((((((hD.set HC.out (j := 0) (by simp) (.int .i64 n'.Id)).set HC.out (j := 1) (by simp) (.int .i64 n'.Size)).set HC.out (j := 2) (by simp) (.int .i64 n'.View)).set HC.out (j := 3) (by simp) (.bool n'.Normal)).set HC.out (j := 4) (by simp) (.int .i64 n'.Last)).set HC.out (j := 5) (by simp) (.slice C5 n'.Log.length o5)).set HC.out (j := 6) (by simp) (.int .i64 n'.Commit)).set HC.out (j := 7) (by simp) (.slice C7 n'.Oks.length o7)).set HC.out (j := 8) (by simp) (.slice C8 n'.Asks.length o8)).set HC.out (j := 9) (by simp) (.slice C9 n'.Doers.length o9))
  simp only [Nat.add_zero, List.set_cons_zero, List.set_cons_succ] at BK
  have TK := (((((((((((Turn.refl [gg] w3).set (p := ⟨gg, k * 10, none⟩) (by simp) (.int .i64 n'.Id)).set (p := ⟨gg, k * 10 + 1, none⟩) (by simp) (.int .i64 n'.Size)).set (p := ⟨gg, k * 10 + 2, none⟩) (by simp) (.int .i64 n'.View)).set (p := ⟨gg, k * 10 + 3, none⟩) (by simp) (.bool n'.Normal)).set (p := ⟨gg, k * 10 + 4, none⟩) (by simp) (.int .i64 n'.Last)).set (p := ⟨gg, k * 10 + 5, none⟩) (by simp) (.slice C5 n'.Log.length o5)).set (p := ⟨gg, k * 10 + 6, none⟩) (by simp) (.int .i64 n'.Commit)).set (p := ⟨gg, k * 10 + 7, none⟩) (by simp) (.slice C7 n'.Oks.length o7)).set (p := ⟨gg, k * 10 + 8, none⟩) (by simp) (.slice C8 n'.Asks.length o8)).set (p := ⟨gg, k * 10 + 9, none⟩) (by simp) (.slice C9 n'.Doers.length o9))
  clear hD
  generalize ((((((((((w3.setCell ⟨gg, k * 10, none⟩ (.int .i64 n'.Id)).setCell ⟨gg, k * 10 + 1, none⟩ (.int .i64 n'.Size)).setCell ⟨gg, k * 10 + 2, none⟩ (.int .i64 n'.View)).setCell ⟨gg, k * 10 + 3, none⟩ (.bool n'.Normal)).setCell ⟨gg, k * 10 + 4, none⟩ (.int .i64 n'.Last)).setCell ⟨gg, k * 10 + 5, none⟩ (.slice C5 n'.Log.length o5)).setCell ⟨gg, k * 10 + 6, none⟩ (.int .i64 n'.Commit)).setCell ⟨gg, k * 10 + 7, none⟩ (.slice C7 n'.Oks.length o7)).setCell ⟨gg, k * 10 + 8, none⟩ (.slice C8 n'.Asks.length o8)).setCell ⟨gg, k * 10 + 9, none⟩ (.slice C9 n'.Doers.length o9)) = U at BK TK ⊢
  with_reducible refine at_world (fun W => Blk W gg 60 (l1 ++ [.int .i64 n'.Id, .int .i64 n'.Size, .int .i64 n'.View, .bool n'.Normal, .int .i64 n'.Last, .slice C5 n'.Log.length o5, .int .i64 n'.Commit, .slice C7 n'.Oks.length o7, .slice C8 n'.Asks.length o8, .slice C9 n'.Doers.length o9] ++ l2) ∧ Turn [gg] w3 W) ⟨BK.keep (w' := U.drew) rfl, TK.drew⟩ ?_
  rintro W4 ⟨K4, t4⟩
  clear BK TK hKk
  have lgg : gg ∈ f0 := by rw [EF.out]; exact List.mem_cons_self
  have igg := i0 gg lgg
  simp only [List.mem_append, not_or] at hb
  obtain ⟨nb0, nb1, nb2⟩ := hb
  have nbg : b ≠ gg := fun h => nb0 (h ▸ lgg)
  obtain ⟨_, nd12, d012⟩ := List.nodup_append.1 nd
  obtain ⟨nd1, nd2, d12⟩ := List.nodup_append.1 nd12
  have n1 : ∀ y ∈ f1, y ≠ gg := fun y hy h => d012 gg lgg y (List.mem_append_left _ hy) h.symm
  have n2 : ∀ y ∈ f2, y ≠ gg := fun y hy h => d012 gg lgg y (List.mem_append_right _ hy) h.symm
  obtain ⟨ndm, ndn, dmn⟩ := List.nodup_append.1 nd3
  obtain ⟨p5, p7, p8, p9, -⟩ := hn3
  have sw3 := b3.size
  have s43 := t4.size
  have j5 := p5.in
  have j7 := p7.in
  have j8 := p8.in
  have j9 := p9.in
  have jm := hm3.in
  replace p5 := (OwnS.turn p5 t4 (fun y hy hm => by simp at hm; have := (j5 y hy).1; omega)).lift (B' := B) (fun y hy => by have := (j5 y hy).1; omega)
  replace p7 := (OwnS.turn p7 t4 (fun y hy hm => by simp at hm; have := (j7 y hy).1; omega)).lift (B' := B) (fun y hy => by have := (j7 y hy).1; omega)
  replace p8 := (OwnS.turn p8 t4 (fun y hy hm => by simp at hm; have := (j8 y hy).1; omega)).lift (B' := B) (fun y hy => by have := (j8 y hy).1; omega)
  replace p9 := (OwnS.turn p9 t4 (fun y hy hm => by simp at hm; have := (j9 y hy).1; omega)).lift (B' := B) (fun y hy => by have := (j9 y hy).1; omega)
  have nfa : ∀ y, y ∈ fa ∨ y ∈ fz → y ∈ f0 ∧ y ≠ gg := fun y hy => ⟨by rw [EF.out]; rcases hy with h | h <;> simp [h], fun h => nd_g (EF.out ▸ nd0) (h ▸ hy)⟩
  have nodesW := wand W4 _ _ n' K4 (kReplica_ownmk n' (h5 := p5) (h7 := p7) (h8 := p8) (h9 := p9)) (fun y hy => t4.block y (by have := (i0 y (nfa y hy).1).2; omega) (by simp; exact (nfa y hy).2))
  clear wand p7 p8 p9
  have eL : L = x.Nodes.length := by rw [← HL.out, ← EN.out]
  have nodes4 : OwnS kReplica 60 B W4 (gg :: (fa ++ ((g5' ++ (g7' ++ (g8' ++ g9'))) ++ fz))) (.slice (some ⟨gg, 0, none⟩) x.Nodes.length c0) (x.Nodes.set k n') := by
    rw [List.set_eq_take_append_cons_drop, if_pos hk, ← eL]; exact nodesW
  clear nodesW eL HL EN
  have T4 : Turn [gg] w W4 := (Turn.of_below b3).trans t4
  have mails4 := OwnS.turn h1 T4 (fun y hy hm => n1 y hy (by simpa using hm))
  have sealed4 := OwnS.turn h2 T4 (fun y hy hm => n2 y hy (by simpa using hm))
  have cB4 := bB.turn t4 (by simpa using nbg)
  have box4 := oB3.turn t4 (by simp; omega)
  have ms4 := OwnS.turn hm3 t4 (fun y hy hm => by simp at hm; have := (jm y hy).1; omega)
  clear h1 h2 bB oB3 hm3
  obtain ⟨F, hF, hA⟩ := OwnS.fam ms4 ndm
  have iF : ∀ j, ∀ y ∈ F j, w.heap.size ≤ y ∧ y < W4.heap.size := fun j y hy => by have := jm y (hA.sub j y hy); omega
  have HF := Lib.hid hF
  clear hF
  go_wp2_with fail
  go_loopw [37] (fun j W => ∃ m : Nat, m ≤ ms.length ∧ j = .int .i64 m ∧ ∃ vv fq, OwnS kMail 75 B W fq vv (x.Mails ++ ms.take (min m (120 - x.Mails.length))) ∧ fq.Nodup ∧ Blk W b 34 [.slice (some ⟨gg, 0, none⟩) x.Nodes.length c0, vv, .slice A2 x.Sealed.length c2] ∧ Turn (Took b f1 F m) W4 W ∧ ∀ y ∈ fq, From f1 F m W4.heap.size y) (fun j _ => ms.length - (intOf j).toNat)
  case atStart => exact ⟨0, Nat.zero_le _, rfl, _, f1, by simpa using mails4, nd1, cB4, Turn.refl _ _, fun y hy => .inl hy⟩
  case round =>
    obtain ⟨m, hm, rfl, vv, fq, ow, ndq, yB, ht, hfr⟩ := hrel
    obtain ⟨AV, cV, rfl, _⟩ := ow.form
    have sT := ht.size
    have hin := ow.in
    have iFr : ∀ y, y ∈ fq → y < w.heap.size ∨ w.heap.size ≤ y := fun y _ => by omega
    by_cases hlt : m < ms.length
    · have hlt' : (m : Int) < (ms.length : Int) := by omega
      obtain ⟨g0, e1, ce, e2, eA, hg0, hgF, hBk, hcl, hO⟩ := HF.out m _ (List.getElem?_eq_getElem hlt)
      subst eA
      have ig0 := jm g0 hg0
      have htk : Hid (∀ h : m < 120 - x.Mails.length, ms.take (min (m + 1) (120 - x.Mails.length)) = ms.take (min m (120 - x.Mails.length)) ++ [ms[m]]) := Lib.hid (take_min_succ ms m _ hlt)
      generalize ms[m] = mm at hO htk
      obtain ⟨E13, e13, ff, rfl, hff, hol⟩ := kMail_own hO
      subst hff
      clear hO
      have K := hBk.turn ht (fun h => by rcases mem_took.1 h with h | h | ⟨i, _, h⟩; omega; have := i1 g0 h; omega; exact hgF i h)
      clear hBk
      have hcl' : e1.length = m * 15 := hcl
      clear hcl
      have hlen : (x.Mails ++ ms.take (min m (120 - x.Mails.length))).length = x.Mails.length + min m (120 - x.Mails.length) := by
        rw [List.length_append, List.length_take, Nat.min_eq_left (Nat.le_trans (Nat.min_le_left _ _) hm)]
      generalize hys : x.Mails ++ ms.take (min m (120 - x.Mails.length)) = ys at ow hlen yB
      have HYS := Lib.hid hys
      clear hys
      have v1 := yB.cell (j := 1) rfl
      have lyB := yB.lt
      have hl120 : ys.length ≤ 120 := by omega
      have u0 := K.mid hcl' (j := 0) rfl
      have u1 := K.mid hcl' (j := 1) rfl
      have u2 := K.mid hcl' (j := 2) rfl
      have u3 := K.mid hcl' (j := 3) rfl
      have u4 := K.mid hcl' (j := 4) rfl
      have u5 := K.mid hcl' (j := 5) rfl
      have u6 := K.mid hcl' (j := 6) rfl
      have u7 := K.mid hcl' (j := 7) rfl
      have u8 := K.mid hcl' (j := 8) rfl
      have u9 := K.mid hcl' (j := 9) rfl
      have u10 := K.mid hcl' (j := 10) rfl
      have u11 := K.mid hcl' (j := 11) rfl
      have u12 := K.mid hcl' (j := 12) rfl
      have u13 := K.mid hcl' (j := 13) rfl
      have u14 := K.mid hcl' (j := 14) rfl
      have lB0 := hB.lt
      by_cases hful : m < 120 - x.Mails.length
      · have hd120 : decide ((ys.length : Int) < 120) = true := decide_eq_true (by omega)
        have HT := Lib.hid (htk.out hful)
        have HLN := Lib.hid hlen
        clear htk hlen
        simp only [Nat.add_zero] at u0
        go_upto_region 10 with fail
        refine at_world (fun W => Blk W wr.heap.size 75 [.int .i64 mm.Kind, .int .i64 mm.From, .int .i64 mm.To, .int .i64 mm.View, .int .i64 mm.At, .bool mm.Has, .int .i64 mm.Entry.Client, .int .i64 mm.Entry.Seq, .int .i64 mm.Entry.Op.Kind, .int .i64 mm.Entry.Op.Vol, .int .i64 mm.Entry.Op.At, .int .i64 mm.Entry.Op.Value, .int .i64 mm.Last, .slice E13 mm.Log.length e13, .int .i64 mm.Commit] ∧ Below wr.heap.size wr W) ⟨blk_alloc wr [.int .i64 mm.Kind, .int .i64 mm.From, .int .i64 mm.To, .int .i64 mm.View, .int .i64 mm.At, .bool mm.Has, .int .i64 mm.Entry.Client, .int .i64 mm.Entry.Seq, .int .i64 mm.Entry.Op.Kind, .int .i64 mm.Entry.Op.Vol, .int .i64 mm.Entry.Op.At, .int .i64 mm.Entry.Op.Value, .int .i64 mm.Last, .slice E13 mm.Log.length e13, .int .i64 mm.Commit] _, below_alloc (Below.refl _ _) _⟩ ?_
        rintro W5 ⟨mB, b5⟩
        have s5 := b5.size
        clear v1 u0 u1 u2 u3 u4 u5 u6 u7 u8 u9 u10 u11 u12 u13 u14
        have oW := OwnS.bel' ow b5
        have yW := yB.below b5
        have v1 := yW.cell (j := 1) rfl
        have z1 := yW.frozen 1
        have u0 := mB.cell (j := 0) rfl
        have u1 := mB.cell (j := 1) rfl
        have u2 := mB.cell (j := 2) rfl
        have u3 := mB.cell (j := 3) rfl
        have u4 := mB.cell (j := 4) rfl
        have u5 := mB.cell (j := 5) rfl
        have u6 := mB.cell (j := 6) rfl
        have u7 := mB.cell (j := 7) rfl
        have u8 := mB.cell (j := 8) rfl
        have u9 := mB.cell (j := 9) rfl
        have u10 := mB.cell (j := 10) rfl
        have u11 := mB.cell (j := 11) rfl
        have u12 := mB.cell (j := 12) rfl
        have u13 := mB.cell (j := 13) rfl
        have u14 := mB.cell (j := 14) rfl
        have oL : kMail.Own B (W5.alloc (.cells #[.int .i64 mm.Kind, .int .i64 mm.From, .int .i64 mm.To, .int .i64 mm.View, .int .i64 mm.At, .bool mm.Has, .int .i64 mm.Entry.Client, .int .i64 mm.Entry.Seq, .int .i64 mm.Entry.Op.Kind, .int .i64 mm.Entry.Op.Vol, .int .i64 mm.Entry.Op.At, .int .i64 mm.Entry.Op.Value, .int .i64 mm.Last, .slice E13 mm.Log.length e13, .int .i64 mm.Commit] 75)).drew (F m) [.int .i64 mm.Kind, .int .i64 mm.From, .int .i64 mm.To, .int .i64 mm.View, .int .i64 mm.At, .bool mm.Has, .int .i64 mm.Entry.Client, .int .i64 mm.Entry.Seq, .int .i64 mm.Entry.Op.Kind, .int .i64 mm.Entry.Op.Vol, .int .i64 mm.Entry.Op.At, .int .i64 mm.Entry.Op.Value, .int .i64 mm.Last, .slice E13 mm.Log.length e13, .int .i64 mm.Commit] mm :=
          kMail_ownmk mm (h13 := OwnS.lift (OwnS.keep (OwnS.turn hol ht (fun y hy hm => by have := iF m y hy; rcases mem_took.1 hm with h | h | ⟨i, hi, h⟩; omega; have := i1 y h; omega; exact hA.dis i m (by omega) y h hy)) (fun y hy => (Below.heap_alloc W5 _ _ (by have := iF m y hy; omega)).trans (b5.block y (by have := iF m y hy; omega)))) (fun y hy => by have := iF m y hy; omega))
        have hl6 := lies_alloc W5 #[.int .i64 mm.Kind, .int .i64 mm.From, .int .i64 mm.To, .int .i64 mm.View, .int .i64 mm.At, .bool mm.Has, .int .i64 mm.Entry.Client, .int .i64 mm.Entry.Seq, .int .i64 mm.Entry.Op.Kind, .int .i64 mm.Entry.Op.Vol, .int .i64 mm.Entry.Op.At, .int .i64 mm.Entry.Op.Value, .int .i64 mm.Last, .slice E13 mm.Log.length e13, .int .i64 mm.Commit] 75
        have y7 := yW.below (below_alloc (Below.refl _ _) (.cells #[.int .i64 mm.Kind, .int .i64 mm.From, .int .i64 mm.To, .int .i64 mm.View, .int .i64 mm.At, .bool mm.Has, .int .i64 mm.Entry.Client, .int .i64 mm.Entry.Seq, .int .i64 mm.Entry.Op.Kind, .int .i64 mm.Entry.Op.Vol, .int .i64 mm.Entry.Op.At, .int .i64 mm.Entry.Op.Value, .int .i64 mm.Last, .slice E13 mm.Log.length e13, .int .i64 mm.Commit] 75))
        have hdis : ∀ y ∈ fq, y ∉ F m := fun y hy hm => by
          have h1 := iF m y hm
          rcases hfr y hy with h | ⟨i, hi, h⟩ | h
          · have := i1 y h; omega
          · exact hA.dis i m (by omega) y h hm
          · omega
        have OW := Lib.hid (OwnS.keep (w' := (W5.alloc (.cells #[.int .i64 mm.Kind, .int .i64 mm.From, .int .i64 mm.To, .int .i64 mm.View, .int .i64 mm.At, .bool mm.Has, .int .i64 mm.Entry.Client, .int .i64 mm.Entry.Seq, .int .i64 mm.Entry.Op.Kind, .int .i64 mm.Entry.Op.Vol, .int .i64 mm.Entry.Op.At, .int .i64 mm.Entry.Op.Value, .int .i64 mm.Last, .slice E13 mm.Log.length e13, .int .i64 mm.Commit] 75)).drew) oW (fun y hy => Below.heap_alloc W5 (.cells #[.int .i64 mm.Kind, .int .i64 mm.From, .int .i64 mm.To, .int .i64 mm.View, .int .i64 mm.At, .bool mm.Has, .int .i64 mm.Entry.Client, .int .i64 mm.Entry.Seq, .int .i64 mm.Entry.Op.Kind, .int .i64 mm.Entry.Op.Vol, .int .i64 mm.Entry.Op.At, .int .i64 mm.Entry.Op.Value, .int .i64 mm.Last, .slice E13 mm.Log.length e13, .int .i64 mm.Commit] 75) _ (oW.in y hy).2))
        clear oW ow
        have lyW := yW.lt
        have hnf : b ∉ fq := fun hm => by
          rcases hfr _ hm with h | ⟨i, _, h⟩ | h
          · exact nb1 h
          · have := iF i _ h; omega
          · omega
        go_region_law (refine step_app (d := kMail) (zs := [mm]) (ys := ys) (fp := fq) (fs := F m) (v := .slice AV ys.length cV) (x := .slice (some ⟨W5.heap.size, 0, none⟩) 1 1) (ce := [.int .i64 mm.Kind, .int .i64 mm.From, .int .i64 mm.To, .int .i64 mm.View, .int .i64 mm.At, .bool mm.Has, .int .i64 mm.Entry.Client, .int .i64 mm.Entry.Seq, .int .i64 mm.Entry.Op.Kind, .int .i64 mm.Entry.Op.Vol, .int .i64 mm.Entry.Op.At, .int .i64 mm.Entry.Op.Value, .int .i64 mm.Last, .slice E13 mm.Log.length e13, .int .i64 mm.Commit]) (B := B) rfl (.tmp 51) (.tmp 53) 31 75 rfl (by kernel_rfl) (by kernel_rfl) (by simp [Act.eval, Act.put]) (by simp [Act.eval, Act.put]) OW.out ndq (Src.ofSlice (P := Tryz.prog) (e' := 75) _ (by kernel_rfl) ⟨W5.heap.size, 0, none⟩ 1 1 _ rfl hl6 (kMail.rd_one (kMail.own_rd oL))) (OwnL.single oL) (hA.nd m) hdis (by simp; omega) (by show _ ≤ (W5.alloc _).heap.size; rw [Deep.nblk_alloc]; omega) ?_; intro v' w' fp' hgr; obtain ⟨r1, r2, r3, r4⟩ := hgr; obtain ⟨AA, cA, rfl, _⟩ := r1.form; have yA := y7.keep (w' := w') (r3.block b y7.lt hnf); have qA := yA.cell (j := 1) rfl; have fA := yA.frozen 1)
        all_goals (go_wp2_with fail)
        all_goals
          have hT5 : Turn (Took b f1 F (m + 1)) W4 (W5.alloc (.cells #[.int .i64 mm.Kind, .int .i64 mm.From, .int .i64 mm.To, .int .i64 mm.View, .int .i64 mm.At, .bool mm.Has, .int .i64 mm.Entry.Client, .int .i64 mm.Entry.Seq, .int .i64 mm.Entry.Op.Kind, .int .i64 mm.Entry.Op.Vol, .int .i64 mm.Entry.Op.At, .int .i64 mm.Entry.Op.Value, .int .i64 mm.Last, .slice E13 mm.Log.length e13, .int .i64 mm.Commit] 75)) := ((ht.mono (fun y hy => took_mono y hy)).trans (Turn.of_below b5)).alloc _
          have hT6 : Turn (Took b f1 F (m + 1)) W4 w' := Turn.fresh hT5.drew r3 (fun y hy => by
            rcases hfr y hy with h | ⟨i, hi, h⟩ | h
            · exact .inl (mem_took.2 (.inr (.inl h)))
            · exact .inl (mem_took.2 (.inr (.inr ⟨i, by omega, h⟩)))
            · exact .inr h)
          have hfr' : ∀ y ∈ fp', From f1 F (m + 1) W4.heap.size y := fun y hy => by
            rcases r4 y hy with h | h | h
            · rcases hfr y h with h | ⟨i, hi, h⟩ | h
              · exact .inl h
              · exact .inr (.inl ⟨i, by omega, h⟩)
              · exact .inr (.inr h)
            · exact .inr (.inl ⟨m, by omega, h⟩)
            · exact .inr (.inr (Nat.le_trans hT5.drew.size h))
          have hb' : b ∉ fp' := fun hm => by
            rcases hfr' b hm with h | ⟨i, _, h⟩ | h
            · exact nb1 h
            · have := iF i b h; omega
            · omega
          have eL2 : ys ++ [mm] = x.Mails ++ ms.take (min (m + 1) (120 - x.Mails.length)) := by rw [← HYS.out, List.append_assoc, ← HT.out]
          rw [show (ys ++ [mm]).length = ys.length + 1 by simp, eL2] at r1
          refine ⟨⟨m + 1, hlt, by go_num, .slice AA (ys.length + 1) cA, fp', OwnS.turn r1 ((Turn.refl [b] w').set (p := ⟨b, 1, none⟩) (by simp) _) (fun y hy hm => hb' (by simp at hm; exact hm ▸ hy)), r2, yA.set0 1 _, hT6.set (p := ⟨b, 1, none⟩) (mem_took.2 (.inl rfl)) _, hfr'⟩, by simp [intOf]; omega⟩
      · have hd120 : decide ((ys.length : Int) < 120) = false := decide_eq_false (by omega)
        have HLN := Lib.hid hlen
        clear htk hlen
        simp only [Nat.add_zero] at u0
        go_wp2_with fail
        rw [← HYS.out, ← take_min_full ms m (120 - x.Mails.length) hful] at ow
        have yB' := yB
        rw [← HYS.out, ← take_min_full ms m (120 - x.Mails.length) hful] at yB'
        refine ⟨⟨m + 1, hlt, by go_num, .slice AV _ cV, fq, OwnS.keep ow (fun y hy => Below.heap_alloc wr _ _ (hin y hy).2), ndq, yB'.below (below_alloc (Below.refl _ _) _), (ht.mono (fun y hy => took_mono y hy)).alloc _, fun y hy => ?_⟩, by simp [intOf]; omega⟩
        rcases hfr y hy with h | ⟨i, hi, h⟩ | h
        · exact .inl h
        · exact .inr (.inl ⟨i, by omega, h⟩)
        · exact .inr (.inr h)
    · have hm' : m = ms.length := by omega
      subst hm'
      rw [show ms.take (min ms.length (120 - x.Mails.length)) = ms.take (120 - x.Mails.length) by
        rcases Nat.le_total ms.length (120 - x.Mails.length) with h | h
        · rw [Nat.min_eq_left h, List.take_length, List.take_of_length_le h]
        · rw [Nat.min_eq_right h]] at ow yB
      have boxr := box4.turn ht (fun h => by
        rcases mem_took.1 h with h | h | ⟨i, _, h⟩
        · omega
        · have := i1 _ h; omega
        · exact nb3 (List.mem_append_left _ (hA.sub i _ h)))
      have sealr := OwnS.turn sealed4 ht (fun y hy h => by
        have := i2 y hy
        rcases mem_took.1 h with h | h | ⟨i, _, h⟩
        · exact nb2 (h ▸ hy)
        · exact d12 y h y hy rfl
        · have := iF i y h; omega)
      have FNin : ∀ y ∈ gg :: (fa ++ ((g5' ++ (g7' ++ (g8' ++ g9'))) ++ fz)), (y ∈ f0 ∨ (w.heap.size ≤ y ∧ y ∈ g5' ++ (g7' ++ (g8' ++ g9')))) ∧ y < W4.heap.size := fun y hy => by
        refine ⟨?_, (nodes4.in y hy).2⟩
        simp only [List.mem_cons, List.mem_append] at hy
        rcases hy with h | h | h | h
        · exact .inl (h ▸ lgg)
        · exact .inl (nfa y (.inl h)).1
        · right
          refine ⟨?_, by simpa only [List.mem_append] using h⟩
          rcases h with h | h | h | h
          · exact (j5 y h).1
          · exact (j7 y h).1
          · exact (j8 y h).1
          · exact (j9 y h).1
        · exact .inl (nfa y (.inr h)).1
      have ndFN : (gg :: (fa ++ ((g5' ++ (g7' ++ (g8' ++ g9'))) ++ fz))).Nodup := by
        refine nd_fresh (EF.out ▸ nd0) ndn (m := w.heap.size) (fun y hy => (i0 y (by rw [EF.out]; exact hy)).2) (fun y hy => ?_)
        simp only [List.mem_append] at hy
        rcases hy with h | h | h | h
        · exact (j5 y h).1
        · exact (j7 y h).1
        · exact (j8 y h).1
        · exact (j9 y h).1
      have G5 : ∀ y ∈ g5', y ∈ gg :: (fa ++ ((g5' ++ (g7' ++ (g8' ++ g9'))) ++ fz)) := fun y hy => by simp [hy]
      generalize hFN : gg :: (fa ++ ((g5' ++ (g7' ++ (g8' ++ g9'))) ++ fz)) = FN at FNin ndFN nodes4 G5
      have bFN : b ∉ FN := fun h => by
        rcases (FNin b h).1 with h | ⟨h, _⟩
        · exact nb0 h
        · omega
      have FT : ∀ y ∈ FN, y ∉ Took b f1 F ms.length := fun y hy h => by
        rcases mem_took.1 h with h | h | ⟨i, _, h⟩
        · exact bFN (h ▸ hy)
        · rcases (FNin y hy).1 with h0 | ⟨h0, _⟩
          · exact d012 y h0 y (List.mem_append_left _ h) rfl
          · have := i1 y h; omega
        · rcases (FNin y hy).1 with h0 | ⟨_, h0⟩
          · have := i0 y h0; have := iF i y h; omega
          · exact dmn y (hA.sub i y h) y h0 rfl
      have FNq : ∀ y ∈ FN, y ∉ fq := fun y hy h => by
        rcases hfr y h with h | ⟨i, hi, h⟩ | h
        · exact FT y hy (mem_took.2 (.inr (.inl h)))
        · exact FT y hy (mem_took.2 (.inr (.inr ⟨i, hi, h⟩)))
        · have := (FNin y hy).2; omega
      have bq : b ∉ fq := fun h => by
        rcases hfr b h with h | ⟨i, hi, h⟩ | h
        · exact nb1 h
        · have := iF i b h; omega
        · omega
      have q2 : ∀ y ∈ fq, y ∉ f2 := fun y hy h => by
        have := i2 y h
        rcases hfr y hy with h1 | ⟨i, hi, h1⟩ | h1
        · exact d12 y h1 y h rfl
        · have := iF i y h1; omega
        · omega
      have FN2 : ∀ y ∈ FN, y ∉ f2 := fun y hy h => by
        rcases (FNin y hy).1 with h0 | ⟨h0, _⟩
        · exact d012 y h0 y (List.mem_append_right _ h) rfl
        · have := i2 y h; omega
      have nodesr := OwnS.turn nodes4 ht FT
      have rlog := (ownS_rds (OwnS.turn p5 ht (fun y hy => FT y (G5 y hy)))).1
      have Tr : Turn (b :: (f0 ++ (f1 ++ f2))) w wr := Turn.fresh (T4.mono (fun y hy => by simp at hy; subst hy; simp [lgg])) ht (fun y hy => by
        rcases mem_took.1 hy with h | h | ⟨i, _, h⟩
        · left; simp [h]
        · left; simp [h]
        · right; exact (iF i y h).1)
      have fqm : ∀ y ∈ fq, y ∈ f0 ++ (f1 ++ f2) ∨ w.heap.size ≤ y := fun y hy => by
        rcases hfr y hy with h | ⟨i, hi, h⟩ | h
        · left; simp [h]
        · right; exact (iF i y h).1
        · right; omega
      have FNm : ∀ y ∈ FN, y ∈ f0 ++ (f1 ++ f2) ∨ w.heap.size ≤ y := fun y hy => by
        rcases (FNin y hy).1 with h0 | ⟨h0, _⟩
        · left; simp [h0]
        · right; exact h0
      have hqin := ow.in
      have FNlt : ∀ y ∈ FN, y < wr.heap.size := fun y hy => by have := (FNin y hy).2; omega
      clear box4 sealed4 nodes4 FT hfr mails4 hA ms4
      have a5 := boxr.cell (j := 5) rfl
      have a6 := boxr.cell (j := 6) rfl
      have v2 := yB.cell (j := 2) rfl
      have z2 := yB.frozen 2
      have lbr := yB.lt
      by_cases hcm : (x.Sealed.length : Int) < n'.Commit
      · have hcd : decide ((x.Sealed.length : Int) < n'.Commit) = true := decide_eq_true hcm
        have eX : doneClu x k n' ms = ⟨x.Nodes.set k n', x.Mails ++ ms.take (120 - x.Mails.length), n'.Log.take n'.Commit.toNat⟩ := by unfold doneClu; rw [if_pos hcm]
        have HX := Lib.hid eX
        clear eX
        obtain ⟨cm, ecm⟩ := Int.eq_ofNat_of_zero_le hc0
        have hcl : cm ≤ n'.Log.length := by omega
        have hpos : 0 < cm := by omega
        rw [ecm] at a6 hcd
        have hcn : decide (x.Sealed.length < cm) = true := decide_eq_true (by omega)
        have ECM := Lib.hid ecm
        clear ecm hcm
        obtain ⟨a, eC5⟩ : ∃ a, C5 = some a := by
          cases C5 with
          | none => have := rdS_none rlog; rw [this] at hcl; simp at hcl; omega
          | some a => exact ⟨a, rfl⟩
        subst eC5
        have hcap : cm ≤ o5 := Nat.le_trans hcl rlog.1
        have hmx := rlog.2.1
        go_wp2_with fail
        go_quiet ((go_at_call 57; exact Calls.quiet_of_same ((many_c _ _ _ _).mono fun e w' ⟨he, hw⟩ => ⟨he, hw.symm⟩)))
        go_wp2_with fail
        have bd : Below wr.heap.size wr (wr.drewN nq) := below_drewN (Below.refl _ _) _
        have hc := cloneEntry_c (n'.Log.take cm) (some a) o5 (wr.drewN nq) ((rlog.below bd).take cm) (by rw [List.length_take]; omega)
        rw [List.length_take, Nat.min_eq_left hcl] at hc
        refine hc.mono ?_
        rintro r w6 ⟨A6, c6, f6, er, o6, nf6, hb6⟩
        rw [List.length_take, Nat.min_eq_left hcl] at er o6
        subst er
        have b6 := below_trans bd hb6
        have y6 := yB.below b6
        have v2 := y6.cell (j := 2) rfl
        have z2 := y6.frozen 2
        have k6 := o6.in
        have HLC := Lib.hid hcl
        clear hc hcl
        go_wp2_with fail
        have tS : Turn [b] w6 (w6.setCell ⟨b, 2, none⟩ (.slice A6 cm c6)) := (Turn.refl _ _).set (by simp) _
        refine bodyPost_ret (v := .int .i64 0) (by simp [results, Tryz.results99, go_sem]) rfl ?_
        rw [HX.out, ECM.out, show Int.toNat (cm : Int) = cm from rfl]
        have i6 : ∀ y ∈ f6, wr.heap.size ≤ y := fun y hy => (k6 y hy).1
        refine ⟨some ⟨gg, 0, none⟩, c0, AV, cV, A6, c6, FN, fq, f6, rfl, ?_, ⟨?_, ?_, ?_, ?_⟩, ?_, ?_, ?_⟩
        · have := y6.set0 2 (.slice A6 cm c6)
          simpa [Nat.min_eq_left HLC.out] using this
        · simpa using OwnS.turn (OwnS.bel' nodesr b6) tS (fun y hy h => by simp at h; exact bFN (h ▸ hy))
        · exact OwnS.turn (OwnS.bel' ow b6) tS (fun y hy h => by simp at h; exact bq (h ▸ hy))
        · have := (OwnS.turn o6 tS (fun y hy h => by simp at h; have := i6 y hy; omega)).lift (B' := B) (fun y hy => by have := i6 y hy; omega)
          simpa [Nat.min_eq_left HLC.out] using this
        · exact List.nodup_append.2 ⟨ndFN, List.nodup_append.2 ⟨ndq, nf6, fun y hy z hz e => by have := i6 z hz; have := (hqin y hy).2; omega⟩, fun y hy z hz e => by
            rcases List.mem_append.1 hz with h | h
            · exact FNq y hy (e ▸ h)
            · have := i6 z h; have := FNlt y hy; omega⟩
        · simp only [List.mem_append, not_or]; exact ⟨bFN, bq, fun h => by have := i6 b h; omega⟩
        · exact (Tr.trans (Turn.of_below b6)).trans (tS.mono (fun y hy => by simp at hy; simp [hy]))
        · intro y hy
          simp only [List.mem_append] at hy
          rcases hy with h | h | h
          · exact FNm y h
          · exact fqm y h
          · right; have := i6 y h; have := Tr.size; omega
      · have hcd : decide ((x.Sealed.length : Int) < n'.Commit) = false := decide_eq_false hcm
        have eX : doneClu x k n' ms = ⟨x.Nodes.set k n', x.Mails ++ ms.take (120 - x.Mails.length), x.Sealed⟩ := by unfold doneClu; rw [if_neg hcm]
        have HX := Lib.hid eX
        clear eX hcm
        go_wp2_with fail
        go_quiet ((go_at_call 57; exact Calls.quiet_of_same ((many_c _ _ _ _).mono fun e w' ⟨he, hw⟩ => ⟨he, hw.symm⟩)))
        go_wp2_with fail
        have bd : Below wr.heap.size wr (wr.drewN nq) := below_drewN (Below.refl _ _) _
        refine bodyPost_ret (v := .int .i64 0) (by simp [results, Tryz.results99, go_sem]) rfl ?_
        rw [HX.out]
        refine ⟨some ⟨gg, 0, none⟩, c0, AV, cV, A2, c2, FN, fq, f2, rfl, by simpa using yB.below bd, ⟨by simpa using OwnS.bel' nodesr bd, OwnS.bel' ow bd, OwnS.bel' sealr bd, ?_⟩, ?_, Tr.trans (Turn.of_below bd), ?_⟩
        · exact List.nodup_append.2 ⟨ndFN, List.nodup_append.2 ⟨ndq, nd2, fun y hy z hz e => q2 y hy (e ▸ hz)⟩, fun y hy z hz e => by
            rcases List.mem_append.1 hz with h | h
            · exact FNq y hy (e ▸ h)
            · exact FN2 y hy (e ▸ h)⟩
        · simp only [List.mem_append, not_or]; exact ⟨bFN, bq, nb2⟩
        · intro y hy
          simp only [List.mem_append] at hy
          rcases hy with h | h | h
          · exact FNm y h
          · exact fqm y h
          · left; simp [h]
end Go.Proofs.YtfblopmploohkaaGreatDoor
