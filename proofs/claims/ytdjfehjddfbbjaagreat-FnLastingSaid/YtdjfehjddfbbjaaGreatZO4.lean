/- The program's beat (written by gO4.py, own work). -/
import Derived.Test.YtdjfehjddfbbjaaGreatZO3
import Derived.Test.YtdjfehjddfbbjaaGreatZP0
set_option linter.unusedVariables false
set_option linter.unusedSimpArgs false
namespace Go.Proofs.YtdjfehjddfbbjaaGreat
open Go Go.RowKit Mk
def beatC (n : SReplica) (i : Nat) : Int := max n.Commit (agreedN n.Oks i n.Log.length)
def beatL (n : SReplica) (i s v : Nat) : List SMail := allTo (fun k => prepM i v (beatC n i) n.Log k (n.Oks.getD k 0)) i s
def askedB (n : SReplica) (s : Nat) : Bool := decide ((s : Int) < 2 * (truesN n.Asks : Nat))
def beatA (n : SReplica) (i s v : Nat) : List SMail := changesL i s v ++ (if askedB n s then tellL n else [])
set_option maxRecDepth 100000 in
set_option maxHeartbeats 4000000 in
theorem beat_idle (b : Nat) (n : SReplica) (i s v : Nat) (A5 : Option Addr) (c5 : Nat) (A7 : Option Addr) (c7 : Nat) (A8 : Option Addr) (c8 : Nat) (A9 : Option Addr) (c9 : Nat) (f5 f7 f8 f9 : List Nat) (B : Nat) (w : World) (hB : Blk w b 29 [.int .i64 n.Id, .int .i64 n.Size, .int .i64 n.View, .bool n.Normal, .int .i64 n.Last, .slice A5 n.Log.length c5, .int .i64 n.Commit, .slice A7 n.Oks.length c7, .slice A8 n.Asks.length c8, .slice A9 n.Doers.length c9]) (hn : HasReplica B w n A5 c5 A7 c7 A8 c8 A9 c9 f5 f7 f8 f9) (hb : b ∉ f5 ++ (f7 ++ (f8 ++ f9))) (hBw : B ≤ w.heap.size) (hN : NumsRep n i s v) (q : leadsB n = false) (q1 : n.Normal = true) :
    Calls Tryz.prog 45 #[.pointer (some ⟨b, 0, none⟩)] w fun r w' => DidBox b n [] 0 (f5 ++ (f7 ++ (f8 ++ f9))) B w r w' := by
  have hat := blk_at _ _ _ _ _ _ _ _ hB (ownS_rds hn.1).1 (ownS_rds hn.2.1).1 (ownS_rds hn.2.2.1).1 (ownS_rds hn.2.2.2.1).1
  obtain ⟨e1, e2, e3, l1, l2, l3, l4, l5, l6, l7, l8⟩ := hN
  have HL := Lib.hid (fun (W : World) (hW : Below w.heap.size w W) => leads_c n ⟨b, 0, none⟩ W (hat.below hW) (by omega) (by omega) (by omega))
  rw [q] at HL
  have q3 := hB.cell (j := 3) rfl
  rw [q1] at q3
  clear hat e1 e2 e3 l1 l2 l3 l4 l5 l6 l7 l8 q1
  go_enter Tryz.func45, Tryz.ntmps45
  go_wp2_with fail
  refine (HL.out _ (by repeat (first | (with_reducible assumption) | (with_reducible exact Below.refl _ _) | (with_reducible apply below_alloc) | (with_reducible apply below_drewN) | (with_reducible apply Below.drew) | (with_reducible refine below_set ?_ (by dsimp only; omega) _) | (with_reducible refine below_trans ?_ (by assumption))))).mono ?_
  rintro r w1 ⟨rfl, hw1⟩
  have pB : Blk w1 w.heap.size 62 [.pointer (some ⟨b, 0, none⟩)] := (blk_alloc w [.pointer (some ⟨b, 0, none⟩)] 62).below hw1
  have bw1 : Below w.heap.size w w1 := by repeat (first | (with_reducible assumption) | (with_reducible exact Below.refl _ _) | (with_reducible apply below_alloc) | (with_reducible apply below_drewN) | (with_reducible apply Below.drew) | (with_reducible refine below_set ?_ (by dsimp only; omega) _) | (with_reducible refine below_trans ?_ (by assumption)))
  have lo1 : w.heap.size + 1 ≤ w1.heap.size := by have := hw1.size; simp only [Deep.nblk_alloc] at this; omega
  have p0 := pB.cell (j := 0) rfl
  clear hw1 HL
  replace q3 := cell_below bw1 q3
  go_wp2_with fail
  refine bodyPost_ret (v := .tuple #[.slice none 0 0, .int .i64 0]) (by simp [results, Tryz.results45, go_sem]) rfl ?_
  exact ⟨A5, c5, A7, c7, A8, c8, A9, c9, f5, f7, f8, f9, none, 0, [], rfl, hB.below bw1, ⟨OwnS.bel' hn.1 bw1, OwnS.bel' hn.2.1 bw1, OwnS.bel' hn.2.2.1 bw1, OwnS.bel' hn.2.2.2.1 bw1, hn.2.2.2.2⟩, ownS_nil _ _ _, by simpa using hn.2.2.2.2, by simpa using hb, Turn.of_below bw1, fun y hy => .inl (by simpa using hy)⟩
set_option maxRecDepth 100000 in
set_option maxHeartbeats 4000000 in
theorem beat_lead (b : Nat) (n : SReplica) (i s v : Nat) (A5 : Option Addr) (c5 : Nat) (A7 : Option Addr) (c7 : Nat) (A8 : Option Addr) (c8 : Nat) (A9 : Option Addr) (c9 : Nat) (f5 f7 f8 f9 : List Nat) (B : Nat) (w : World) (hB : Blk w b 29 [.int .i64 n.Id, .int .i64 n.Size, .int .i64 n.View, .bool n.Normal, .int .i64 n.Last, .slice A5 n.Log.length c5, .int .i64 n.Commit, .slice A7 n.Oks.length c7, .slice A8 n.Asks.length c8, .slice A9 n.Doers.length c9]) (hn : HasReplica B w n A5 c5 A7 c7 A8 c8 A9 c9 f5 f7 f8 f9) (hb : b ∉ f5 ++ (f7 ++ (f8 ++ f9))) (hBw : B ≤ w.heap.size) (hN : NumsRep n i s v) (hoks : n.Oks.length = s) (hbo : ∀ k ∈ n.Oks, 0 ≤ k ∧ k ≤ n.Log.length) (q : leadsB n = true) :
    Calls Tryz.prog 45 #[.pointer (some ⟨b, 0, none⟩)] w fun r w' => DidBox b { n with Commit := beatC n i } (beatL n i s v) 0 (f5 ++ (f7 ++ (f8 ++ f9))) B w r w' := by
  have hat := blk_at _ _ _ _ _ _ _ _ hB (ownS_rds hn.1).1 (ownS_rds hn.2.1).1 (ownS_rds hn.2.2.1).1 (ownS_rds hn.2.2.2.1).1
  obtain ⟨e1, e2, e3, l1, l2, l3, l4, l5, l6, l7, l8⟩ := hN
  have HL := Lib.hid (fun (W : World) (hW : Below w.heap.size w W) => leads_c n ⟨b, 0, none⟩ W (hat.below hW) (by omega) (by omega) (by omega))
  rw [q] at HL
  obtain ⟨h5, h7, h8, h9, nd⟩ := hn
  have i5 := h5.in
  have i7 := h7.in
  have i8 := h8.in
  have i9 := h9.in
  have lbw := hB.lt
  rw [e1, e2, e3] at hB
  have E1 := Lib.hid e1
  have E2 := Lib.hid e2
  have E3 := Lib.hid e3
  clear hat e1 e2 e3 l4 l5 l6 l8
  simp only [List.mem_append, not_or] at hb
  obtain ⟨nb5, nb7, nb8, nb9⟩ := hb
  go_enter Tryz.func45, Tryz.ntmps45
  go_wp2_with fail
  refine (HL.out _ (by repeat (first | (with_reducible assumption) | (with_reducible exact Below.refl _ _) | (with_reducible apply below_alloc) | (with_reducible apply below_drewN) | (with_reducible apply Below.drew) | (with_reducible refine below_set ?_ (by dsimp only; omega) _) | (with_reducible refine below_trans ?_ (by assumption))))).mono ?_
  rintro r w1 ⟨rfl, hw1⟩
  have pB : Blk w1 w.heap.size 62 [.pointer (some ⟨b, 0, none⟩)] := (blk_alloc w [.pointer (some ⟨b, 0, none⟩)] 62).below hw1
  have bw1 : Below w.heap.size w w1 := by repeat (first | (with_reducible assumption) | (with_reducible exact Below.refl _ _) | (with_reducible apply below_alloc) | (with_reducible apply below_drewN) | (with_reducible apply Below.drew) | (with_reducible refine below_set ?_ (by dsimp only; omega) _) | (with_reducible refine below_trans ?_ (by assumption)))
  have lo1 : w.heap.size + 1 ≤ w1.heap.size := by have := hw1.size; simp only [Deep.nblk_alloc] at this; omega
  have p0 := pB.cell (j := 0) rfl
  clear hw1 HL
  have hag := agree_c b i s n.Commit (.int .i64 v) (.bool n.Normal) (.int .i64 n.Last) (.slice A8 n.Asks.length c8) (.slice A9 n.Doers.length c9) n.Oks n.Log A5 c5 A7 c7 29 w1 (hB.below bw1) ((ownS_rds h7).1.below bw1) hoks l1 l2 (by omega) hbo
  have HAG := Lib.hid hag
  have HOK := Lib.hid hoks
  have HBO := Lib.hid hbo
  clear hag hoks hbo
  go_wp2_with fail
  refine HAG.out.mono ?_
  rintro r w5 ⟨rfl, B5, t5⟩
  clear HAG
  have s5 := t5.size
  replace pB := pB.turn t5 (by simp; omega)
  have g5 := (OwnS.bel' h5 bw1).turn t5 (fun y hy h => by simp at h; exact nb5 (h ▸ hy))
  have g7 := (OwnS.bel' h7 bw1).turn t5 (fun y hy h => by simp at h; exact nb7 (h ▸ hy))
  have g8 := (OwnS.bel' h8 bw1).turn t5 (fun y hy h => by simp at h; exact nb8 (h ▸ hy))
  have g9 := (OwnS.bel' h9 bw1).turn t5 (fun y hy h => by simp at h; exact nb9 (h ▸ hy))
  clear p0 h5 h7 h8 h9
  have p0 := pB.cell (j := 0) rfl
  have k0 := B5.cell (j := 0) rfl
  have k1 := B5.cell (j := 1) rfl
  have k2 := B5.cell (j := 2) rfl
  have k5 := B5.cell (j := 5) rfl
  have k6 := B5.cell (j := 6) rfl
  have k7 := B5.cell (j := 7) rfl
  have hta := toAll_c 93 #[.pointer (some ⟨w.heap.size, 0, none⟩)] (Go.Proofs.enters_of Tryz.func93 (by kernel_rfl) rfl) (fun k => prepM i v (max n.Commit (agreedN n.Oks i n.Log.length)) n.Log k (n.Oks.getD k 0)) i s ⟨b, 0, none⟩ w5 k0 (by simpa using k1) l2
    (fun W k hW hk => by
      have hk' : k < n.Oks.length := by rw [HOK.out]; exact hk
      have hnn := (HBO.out _ (List.getElem_mem hk')).1
      have ee : n.Oks.getD k 0 = ((n.Oks[k].toNat : Nat) : Int) := by rw [List.getD_eq_getElem?_getD, List.getElem?_eq_getElem hk', Option.getD_some]; omega
      simp only [ee]
      exact beat1_c W ⟨b, 0, none⟩ ⟨w.heap.size, 0, none⟩ i v _ k n.Oks[k].toNat n.Oks n.Log A5 A7 c5 c7 (cell_below hW p0) (cell_below hW k0) (by simpa using cell_below hW k2) (by simpa using cell_below hW k5) (by simpa using cell_below hW k6) (by simpa using cell_below hW k7) ((ownS_rds g5).1.below hW) ((ownS_rds g7).1.below hW) hk' (by omega))
  have HTA := Lib.hid hta
  clear hta k0 k1 k2 k5 k6 k7
  go_wp2_with fail
  refine HTA.out.mono ?_
  rintro r w6 ⟨As, cs, fs, rfl, om, nm, hb6⟩
  have im := om.in
  go_wp2_with fail
  have bT : Turn (b :: (f5 ++ (f7 ++ (f8 ++ f9)))) w w6 := ((Turn.of_below bw1).trans (t5.mono (fun y hy => by simp at hy; simp [hy]))).trans (Turn.of_below hb6)
  have hall : ∀ z ∈ f5 ++ (f7 ++ (f8 ++ f9)), z < w.heap.size := fun z hz => by
    simp only [List.mem_append] at hz
    rcases hz with h | h | h | h
    · exact (i5 z h).2
    · exact (i7 z h).2
    · exact (i8 z h).2
    · exact (i9 z h).2
  refine bodyPost_ret (v := .tuple #[.slice As (beatL n i s v).length cs, .int .i64 0]) (by simp [results, Tryz.results45, go_sem, beatL, beatC]) rfl ?_
  refine ⟨A5, c5, A7, c7, A8, c8, A9, c9, f5, f7, f8, f9, As, cs, fs, rfl, ?_, ⟨OwnS.bel' g5 hb6, OwnS.bel' g7 hb6, OwnS.bel' g8 hb6, OwnS.bel' g9 hb6, nd⟩, om.lift (fun y hy => by have := (im y hy).1; omega), ?_, ?_, bT, ?_⟩
  · have hh := B5.below hb6
    simp only [E1.out, E2.out, E3.out]
    exact hh
  · exact List.nodup_append.2 ⟨nm, nd, fun y hy z hz e => by have := (im y hy).1; have := hall z hz; omega⟩
  · simp only [List.mem_append, not_or]
    exact ⟨fun h => by have := (im b h).1; omega, nb5, nb7, nb8, nb9⟩
  · intro y hy
    rcases List.mem_append.1 hy with h | h
    · right; have := (im y h).1; omega
    · exact .inl h
set_option maxRecDepth 100000 in
set_option maxHeartbeats 4000000 in
theorem beat_few (b : Nat) (n : SReplica) (i s v : Nat) (A5 : Option Addr) (c5 : Nat) (A7 : Option Addr) (c7 : Nat) (A8 : Option Addr) (c8 : Nat) (A9 : Option Addr) (c9 : Nat) (f5 f7 f8 f9 : List Nat) (B : Nat) (w : World) (hB : Blk w b 29 [.int .i64 n.Id, .int .i64 n.Size, .int .i64 n.View, .bool n.Normal, .int .i64 n.Last, .slice A5 n.Log.length c5, .int .i64 n.Commit, .slice A7 n.Oks.length c7, .slice A8 n.Asks.length c8, .slice A9 n.Doers.length c9]) (hn : HasReplica B w n A5 c5 A7 c7 A8 c8 A9 c9 f5 f7 f8 f9) (hb : b ∉ f5 ++ (f7 ++ (f8 ++ f9))) (hBw : B ≤ w.heap.size) (hN : NumsRep n i s v) (q1 : n.Normal = false) (qa : askedB n s = false) :
    Calls Tryz.prog 45 #[.pointer (some ⟨b, 0, none⟩)] w fun r w' => DidBox b n (changesL i s v) 0 (f5 ++ (f7 ++ (f8 ++ f9))) B w r w' := by
  have q : leadsB n = false := by unfold leadsB; rw [q1]; rfl
  have hat := blk_at _ _ _ _ _ _ _ _ hB (ownS_rds hn.1).1 (ownS_rds hn.2.1).1 (ownS_rds hn.2.2.1).1 (ownS_rds hn.2.2.2.1).1
  obtain ⟨e1, e2, e3, l1, l2, l3, l4, l5, l6, l7, l8⟩ := hN
  have HL := Lib.hid (fun (W : World) (hW : Below w.heap.size w W) => leads_c n ⟨b, 0, none⟩ W (hat.below hW) (by omega) (by omega) (by omega))
  rw [q] at HL
  obtain ⟨h5, h7, h8, h9, nd⟩ := hn
  have i5 := h5.in
  have i7 := h7.in
  have i8 := h8.in
  have i9 := h9.in
  have lbw := hB.lt
  have HT := Lib.hid (fun (W : World) (hW : Below w.heap.size w W) => tell_c n ⟨b, 0, none⟩ W (hat.below hW) (by omega) (by omega) (by omega) (by omega))
  have B0 := hB
  rw [e1, e2, e3, q1] at hB
  rw [q1] at l5
  have l5' : n.Asks.length ≤ 1000 := by rw [l5]; simp; omega
  clear hat e1 e2 e3 l3 l4 l5 l6 l7 l8 q1
  go_enter Tryz.func45, Tryz.ntmps45
  go_wp2_with fail
  refine (HL.out _ (by repeat (first | (with_reducible assumption) | (with_reducible exact Below.refl _ _) | (with_reducible apply below_alloc) | (with_reducible apply below_drewN) | (with_reducible apply Below.drew) | (with_reducible refine below_set ?_ (by dsimp only; omega) _) | (with_reducible refine below_trans ?_ (by assumption))))).mono ?_
  rintro r w1 ⟨rfl, hw1⟩
  have pB : Blk w1 w.heap.size 62 [.pointer (some ⟨b, 0, none⟩)] := (blk_alloc w [.pointer (some ⟨b, 0, none⟩)] 62).below hw1
  have bw1 : Below w.heap.size w w1 := by repeat (first | (with_reducible assumption) | (with_reducible exact Below.refl _ _) | (with_reducible apply below_alloc) | (with_reducible apply below_drewN) | (with_reducible apply Below.drew) | (with_reducible refine below_set ?_ (by dsimp only; omega) _) | (with_reducible refine below_trans ?_ (by assumption)))
  have lo1 : w.heap.size + 1 ≤ w1.heap.size := by have := hw1.size; simp only [Deep.nblk_alloc] at this; omega
  have p0 := pB.cell (j := 0) rfl
  clear hw1 HL
  have B1 := hB.below bw1
  have k0 := B1.cell (j := 0) rfl
  have k1 := B1.cell (j := 1) rfl
  have k2 := B1.cell (j := 2) rfl
  have k3 := B1.cell (j := 3) rfl
  have HC := Lib.hid (changes_c w1 ⟨b, 0, none⟩ i s v k0 (by simpa using k1) (by simpa using k2) l2)
  clear k0 k1 k2
  go_wp2_with fail
  refine HC.out.mono ?_
  rintro r w2 ⟨As, cs, fs, rfl, om, nm, hb2⟩
  have bw2 := below_trans bw1 hb2
  have im := om.in
  have s2 := hb2.size
  have p0 := (pB.below hb2).cell (j := 0) rfl
  have B2 := hB.below bw2
  have k1 := B2.cell (j := 1) rfl
  have k8 := B2.cell (j := 8) rfl
  have r8 := (ownS_rds h8).1.below bw2
  have hmm := truesN_le n.Asks
  have HE := Lib.hid (fun (W : World) (hW : Below w2.heap.size w2 W) => isEnough_c W ⟨b, 0, none⟩ (truesN n.Asks : Nat) s (by simpa using cell_below hW k1) (by omega) (by omega))
  have hqa : decide ((s : Int) < 2 * ((truesN n.Asks : Nat) : Int)) = false := qa
  rw [hqa] at HE
  clear hqa k3 HC
  go_wp2_with fail
  go_quiet ((first | (go_at_call 47; (with_reducible refine Calls.quiet_of_same ((countTrue_c n.Asks A8 c8 _ (r8.below (by repeat (first | (with_reducible assumption) | (with_reducible exact Below.refl _ _) | (with_reducible apply below_alloc) | (with_reducible apply below_drewN) | (with_reducible apply Below.drew) | (with_reducible refine below_set ?_ (by dsimp only; omega) _) | (with_reducible refine below_trans ?_ (by assumption))))) l5').mono fun e w' ⟨he, hw⟩ => ⟨he, hw.symm⟩))) | (go_at_call 81; (with_reducible refine Calls.quiet_of_same ((HE.out _ (by repeat (first | (with_reducible assumption) | (with_reducible exact Below.refl _ _) | (with_reducible apply below_alloc) | (with_reducible apply below_drewN) | (with_reducible apply Below.drew) | (with_reducible refine below_set ?_ (by dsimp only; omega) _) | (with_reducible refine below_trans ?_ (by assumption))))).mono fun e w' ⟨he, hw⟩ => ⟨he, hw.symm⟩)))))
  go_wp2_with fail
  have bD : Below w2.heap.size w2 (w2.drewN nq) := below_drewN (Below.refl _ _) _
  have FR : ∀ y ∈ fs, w.heap.size ≤ y := fun y hy => by have := (im y hy).1; omega
  have bwD := below_trans bw2 bD
  have hall : ∀ z ∈ f5 ++ (f7 ++ (f8 ++ f9)), z < w.heap.size := fun z hz => by
    simp only [List.mem_append] at hz
    rcases hz with h | h | h | h
    · exact (i5 z h).2
    · exact (i7 z h).2
    · exact (i8 z h).2
    · exact (i9 z h).2
  refine bodyPost_ret (v := .tuple #[.slice As (changesL i s v).length cs, .int .i64 0]) (by simp [results, Tryz.results45, go_sem]) rfl ?_
  refine ⟨A5, c5, A7, c7, A8, c8, A9, c9, f5, f7, f8, f9, As, cs, fs, rfl, B0.below bwD, ⟨OwnS.bel' h5 bwD, OwnS.bel' h7 bwD, OwnS.bel' h8 bwD, OwnS.bel' h9 bwD, nd⟩, (OwnS.bel' om bD).lift (fun y hy => by have := (im y hy).1; omega), ?_, ?_, Turn.of_below bwD, ?_⟩
  · exact List.nodup_append.2 ⟨nm, nd, fun y hy z hz e => by have := FR y hy; have := hall z hz; omega⟩
  · simp only [List.mem_append, not_or] at hb ⊢
    exact ⟨fun h => by have := FR b h; omega, hb⟩
  · intro y hy
    rcases List.mem_append.1 hy with h | h
    · right; exact FR y h
    · exact .inl h
set_option maxRecDepth 100000 in
set_option maxHeartbeats 4000000 in
theorem beat_many (b : Nat) (n : SReplica) (i s v : Nat) (A5 : Option Addr) (c5 : Nat) (A7 : Option Addr) (c7 : Nat) (A8 : Option Addr) (c8 : Nat) (A9 : Option Addr) (c9 : Nat) (f5 f7 f8 f9 : List Nat) (B : Nat) (w : World) (hB : Blk w b 29 [.int .i64 n.Id, .int .i64 n.Size, .int .i64 n.View, .bool n.Normal, .int .i64 n.Last, .slice A5 n.Log.length c5, .int .i64 n.Commit, .slice A7 n.Oks.length c7, .slice A8 n.Asks.length c8, .slice A9 n.Doers.length c9]) (hn : HasReplica B w n A5 c5 A7 c7 A8 c8 A9 c9 f5 f7 f8 f9) (hb : b ∉ f5 ++ (f7 ++ (f8 ++ f9))) (hBw : B ≤ w.heap.size) (hN : NumsRep n i s v) (q1 : n.Normal = false) (qa : askedB n s = true) :
    Calls Tryz.prog 45 #[.pointer (some ⟨b, 0, none⟩)] w fun r w' => DidBox b n (changesL i s v ++ tellL n) 0 (f5 ++ (f7 ++ (f8 ++ f9))) B w r w' := by
  have q : leadsB n = false := by unfold leadsB; rw [q1]; rfl
  have hat := blk_at _ _ _ _ _ _ _ _ hB (ownS_rds hn.1).1 (ownS_rds hn.2.1).1 (ownS_rds hn.2.2.1).1 (ownS_rds hn.2.2.2.1).1
  obtain ⟨e1, e2, e3, l1, l2, l3, l4, l5, l6, l7, l8⟩ := hN
  have HL := Lib.hid (fun (W : World) (hW : Below w.heap.size w W) => leads_c n ⟨b, 0, none⟩ W (hat.below hW) (by omega) (by omega) (by omega))
  rw [q] at HL
  obtain ⟨h5, h7, h8, h9, nd⟩ := hn
  have i5 := h5.in
  have i7 := h7.in
  have i8 := h8.in
  have i9 := h9.in
  have lbw := hB.lt
  have HT := Lib.hid (fun (W : World) (hW : Below w.heap.size w W) => tell_c n ⟨b, 0, none⟩ W (hat.below hW) (by omega) (by omega) (by omega) (by omega))
  have B0 := hB
  rw [e1, e2, e3, q1] at hB
  rw [q1] at l5
  have l5' : n.Asks.length ≤ 1000 := by rw [l5]; simp; omega
  clear hat e1 e2 e3 l3 l4 l5 l6 l7 l8 q1
  go_enter Tryz.func45, Tryz.ntmps45
  go_wp2_with fail
  refine (HL.out _ (by repeat (first | (with_reducible assumption) | (with_reducible exact Below.refl _ _) | (with_reducible apply below_alloc) | (with_reducible apply below_drewN) | (with_reducible apply Below.drew) | (with_reducible refine below_set ?_ (by dsimp only; omega) _) | (with_reducible refine below_trans ?_ (by assumption))))).mono ?_
  rintro r w1 ⟨rfl, hw1⟩
  have pB : Blk w1 w.heap.size 62 [.pointer (some ⟨b, 0, none⟩)] := (blk_alloc w [.pointer (some ⟨b, 0, none⟩)] 62).below hw1
  have bw1 : Below w.heap.size w w1 := by repeat (first | (with_reducible assumption) | (with_reducible exact Below.refl _ _) | (with_reducible apply below_alloc) | (with_reducible apply below_drewN) | (with_reducible apply Below.drew) | (with_reducible refine below_set ?_ (by dsimp only; omega) _) | (with_reducible refine below_trans ?_ (by assumption)))
  have lo1 : w.heap.size + 1 ≤ w1.heap.size := by have := hw1.size; simp only [Deep.nblk_alloc] at this; omega
  have p0 := pB.cell (j := 0) rfl
  clear hw1 HL
  have B1 := hB.below bw1
  have k0 := B1.cell (j := 0) rfl
  have k1 := B1.cell (j := 1) rfl
  have k2 := B1.cell (j := 2) rfl
  have k3 := B1.cell (j := 3) rfl
  have HC := Lib.hid (changes_c w1 ⟨b, 0, none⟩ i s v k0 (by simpa using k1) (by simpa using k2) l2)
  clear k0 k1 k2
  go_wp2_with fail
  refine HC.out.mono ?_
  rintro r w2 ⟨As, cs, fs, rfl, om, nm, hb2⟩
  have bw2 := below_trans bw1 hb2
  have im := om.in
  have s2 := hb2.size
  have p0 := (pB.below hb2).cell (j := 0) rfl
  have B2 := hB.below bw2
  have k1 := B2.cell (j := 1) rfl
  have k8 := B2.cell (j := 8) rfl
  have r8 := (ownS_rds h8).1.below bw2
  have hmm := truesN_le n.Asks
  have HE := Lib.hid (fun (W : World) (hW : Below w2.heap.size w2 W) => isEnough_c W ⟨b, 0, none⟩ (truesN n.Asks : Nat) s (by simpa using cell_below hW k1) (by omega) (by omega))
  have hqa : decide ((s : Int) < 2 * ((truesN n.Asks : Nat) : Int)) = true := qa
  rw [hqa] at HE
  clear hqa k3 HC
  go_wp2_with fail
  go_quiet ((first | (go_at_call 47; (with_reducible refine Calls.quiet_of_same ((countTrue_c n.Asks A8 c8 _ (r8.below (by repeat (first | (with_reducible assumption) | (with_reducible exact Below.refl _ _) | (with_reducible apply below_alloc) | (with_reducible apply below_drewN) | (with_reducible apply Below.drew) | (with_reducible refine below_set ?_ (by dsimp only; omega) _) | (with_reducible refine below_trans ?_ (by assumption))))) l5').mono fun e w' ⟨he, hw⟩ => ⟨he, hw.symm⟩))) | (go_at_call 81; (with_reducible refine Calls.quiet_of_same ((HE.out _ (by repeat (first | (with_reducible assumption) | (with_reducible exact Below.refl _ _) | (with_reducible apply below_alloc) | (with_reducible apply below_drewN) | (with_reducible apply Below.drew) | (with_reducible refine below_set ?_ (by dsimp only; omega) _) | (with_reducible refine below_trans ?_ (by assumption))))).mono fun e w' ⟨he, hw⟩ => ⟨he, hw.symm⟩)))))
  go_wp2_with fail
  refine at_call (fun W => Below w2.heap.size w2 W) (below_drewN (Below.refl _ _) _) ?_
  intro w3 b3
  have bw3 := below_trans bw2 b3
  replace om := OwnS.bel' om b3
  have im3 := om.in
  refine (HT.out _ bw3).mono ?_
  rintro r w4 ⟨Bs, ds, gs, rfl, on, nn, hb4⟩
  have jn := on.in
  have s3 := b3.size
  have s4 := hb4.size
  have om4 := OwnS.bel' om hb4
  obtain ⟨-, ce, fi, hsrc, hown, nfi, hfi⟩ := OwnS.src (P := Tryz.prog) (e' := 51) (t := 31) on nn (by kernel_rfl)
  have hlen : (changesL i s v).length ≤ 1000 := by have := allTo_len (fun k => mailK i v 3 k) i s; unfold changesL; omega
  have hlt : (tellL n).length ≤ 1 := by unfold tellL; split <;> simp
  have hown' := hown.lift (B' := w1.heap.size) (fun y hy => by have := (jn y (hfi y hy)).1; omega)
  go_wp2_with (refine wpList_app (d := kMail) (zs := tellL n) (ys := changesL i s v) (fp := fs) (fs := fi) (B := w1.heap.size) rfl _ _ 31 51 rfl (by kernel_rfl) (by kernel_rfl) rfl rfl om4 nm hsrc hown' nfi (fun y hy hm => by have := (jn y (hfi y hm)).1; have := (im3 y hy).2; omega) (by omega) (by omega) ?_; intro v' w' fp' hgr; obtain ⟨r1, r2, r3, r4⟩ := hgr; have i4 := om4.in)
  obtain ⟨Cs, es, rfl, _⟩ := r1.form
  go_wp2_with fail
  have bw4 := below_trans bw3 hb4
  have T5 : Below w.heap.size w w' := bw4.trans (r3.below (B := w.heap.size) (fun y hy => by have := (im y hy).1; omega) bw4.size)
  have FR : ∀ y ∈ fp', w.heap.size ≤ y := fun y hy => by
    rcases r4 y hy with h | h | h
    · have := (im y h).1; omega
    · have := (jn y (hfi y h)).1; omega
    · omega
  have hall : ∀ z ∈ f5 ++ (f7 ++ (f8 ++ f9)), z < w.heap.size := fun z hz => by
    simp only [List.mem_append] at hz
    rcases hz with h | h | h | h
    · exact (i5 z h).2
    · exact (i7 z h).2
    · exact (i8 z h).2
    · exact (i9 z h).2
  refine bodyPost_ret (v := .tuple #[.slice Cs (changesL i s v ++ tellL n).length es, .int .i64 0]) (by simp [results, Tryz.results45, go_sem]) rfl ?_
  refine ⟨A5, c5, A7, c7, A8, c8, A9, c9, f5, f7, f8, f9, Cs, es, fp', rfl, B0.below T5, ⟨OwnS.bel' h5 T5, OwnS.bel' h7 T5, OwnS.bel' h8 T5, OwnS.bel' h9 T5, nd⟩, r1.lift (fun y hy => by have := FR y hy; omega), ?_, ?_, Turn.of_below T5, ?_⟩
  · exact List.nodup_append.2 ⟨r2, nd, fun y hy z hz e => by have := FR y hy; have := hall z hz; omega⟩
  · simp only [List.mem_append, not_or] at hb ⊢
    exact ⟨fun h => by have := FR b h; omega, hb⟩
  · intro y hy
    rcases List.mem_append.1 hy with h | h
    · right; exact FR y h
    · exact .inl h
end Go.Proofs.YtdjfehjddfbbjaaGreat
