/- What a node does on its own: the program's crash and timeout. -/
import Derived.Test.YtdjfehjddfbbjaaGreatZI
import Derived.Test.YtdjfehjddfbbjaaGreatZH
import Derived.Test.YtdjfehjddfbbjaaGreatZF
set_option linter.unusedVariables false
set_option linter.unusedSimpArgs false
namespace Go.Proofs.YtdjfehjddfbbjaaGreat
open Go Go.RowKit Mk
/-- What a method that does something leaves: the node in the box b is n' now, mails ms, a code. -/
def DidBox (b : Nat) (n' : SReplica) (ms : List SMail) (code : Int) (fp : List Nat) (B : Nat) (w : World) (r : Ending) (w' : World) : Prop :=
  ∃ A5 c5 A7 c7 A8 c8 A9 c9 f5 f7 f8 f9 As cs fs, r = .returned (.tuple #[.slice As ms.length cs, .int .i64 code]) ∧ Blk w' b 29 [.int .i64 n'.Id, .int .i64 n'.Size, .int .i64 n'.View, .bool n'.Normal, .int .i64 n'.Last, .slice A5 n'.Log.length c5, .int .i64 n'.Commit, .slice A7 n'.Oks.length c7, .slice A8 n'.Asks.length c8, .slice A9 n'.Doers.length c9] ∧ HasReplica B w' n' A5 c5 A7 c7 A8 c8 A9 c9 f5 f7 f8 f9 ∧
    OwnS kMail 51 B w' fs (.slice As ms.length cs) ms ∧ (fs ++ (f5 ++ (f7 ++ (f8 ++ f9)))).Nodup ∧ b ∉ fs ++ (f5 ++ (f7 ++ (f8 ++ f9))) ∧ Turn (b :: fp) w w' ∧ ∀ x ∈ fs ++ (f5 ++ (f7 ++ (f8 ++ f9))), x ∈ fp ∨ w.heap.size ≤ x
/-- What a faultless node is like, in numbers. -/
structure NumsRep (n : SReplica) (i s v : Nat) : Prop where
  id : n.Id = i
  size : n.Size = s
  view : n.View = v
  lt : i < s
  le : s ≤ 5
  vle : v ≤ 200
  oks : n.Oks.length ≤ 5
  asks : n.Asks.length = if n.Normal then 0 else s
  doers : n.Doers.length = if n.Normal then 0 else s
  log : n.Log.length ≤ 40
  logs : ∀ d ∈ n.Doers, d.Log.length ≤ 40
def crashR (n : SReplica) (i s : Nat) : SReplica :=
  { n with Commit := 0, Oks := List.replicate n.Oks.length 0, Asks := if n.Normal then n.Asks else aloneL s i, Doers := if n.Normal then n.Doers else List.replicate s zDoer }
theorem aloneL_len (s i : Nat) : (aloneL s i).length = s := by simp [aloneL]
theorem nodup4 {f5 : List Nat} {m a b c : Nat} (n5 : f5.Nodup) (h : ∀ x ∈ f5, x < m) (h1 : m ≤ a) (h2 : a < b) (h3 : a < c) (h4 : b ≠ c) : ([] ++ (f5 ++ ([a] ++ ([b] ++ [c])))).Nodup := by
  have : ∀ x, x ∈ f5 → x ≠ a ∧ x ≠ b ∧ x ≠ c := fun x hx => by have := h x hx; omega
  simp only [List.nil_append, List.nodup_append, List.nodup_cons, List.mem_cons, List.mem_append, List.not_mem_nil, or_false, not_false_eq_true, List.nodup_nil, and_true, true_and]
  grind
set_option maxRecDepth 100000 in
set_option maxHeartbeats 2000000 in
theorem crash_c (b : Nat) (n : SReplica) (i s v : Nat) (A5 : Option Addr) (c5 : Nat) (A7 : Option Addr) (c7 : Nat) (A8 : Option Addr) (c8 : Nat) (A9 : Option Addr) (c9 : Nat) (f5 f7 f8 f9 : List Nat) (B : Nat) (w : World) (hB : Blk w b 29 [.int .i64 n.Id, .int .i64 n.Size, .int .i64 n.View, .bool n.Normal, .int .i64 n.Last, .slice A5 n.Log.length c5, .int .i64 n.Commit, .slice A7 n.Oks.length c7, .slice A8 n.Asks.length c8, .slice A9 n.Doers.length c9]) (hn : HasReplica B w n A5 c5 A7 c7 A8 c8 A9 c9 f5 f7 f8 f9)
    (hb : b ∉ f5 ++ (f7 ++ (f8 ++ f9))) (hBw : B ≤ w.heap.size) (hf : NumsRep n i s v) :
    Calls Tryz.prog 34 #[.pointer (some ⟨b, 0, none⟩)] w fun r w' => DidBox b (crashR n i s) [] 0 (f5 ++ (f7 ++ (f8 ++ f9))) B w r w' := by
  obtain ⟨h5, h7, h8, h9, nd⟩ := hn
  have i5 := h5.in
  have i7 := h7.in
  have i8 := h8.in
  have i9 := h9.in
  obtain ⟨e1, e2, e3, l1, l2, l3, l4, l5, l6, _, _⟩ := hf
  rw [e1, e2] at hB
  simp only [List.mem_append, not_or] at hb
  obtain ⟨b5, b7, b8, b9⟩ := hb
  have hlt := hB.lt
  have nd5 : f5.Nodup := (List.nodup_append.1 nd).1
  cases hN : n.Normal with
  | true =>
    have hR := Lib.hid (show crashR n i s = { n with Commit := 0, Oks := List.replicate n.Oks.length 0 } by unfold crashR; rw [hN]; rfl)
    rw [hN] at hB
    have q6 := hB.cell (j := 6) rfl
    have z6 := hB.frozen 6
    have q7 := hB.cell (j := 7) rfl
    go_enter Tryz.func34, Tryz.ntmps34
    go_wp2_with (refine wpList_mk 25 2 (.int .i64 0) 8 _ _ rfl rfl n.Oks.length rfl rfl (by kernel_rfl) (by kernel_rfl) (by decide) (by omega) ?_; intro W0 G0 b0 s0; clear q6 z6 q7; have X0 := (hB.set0 6 (.int .i64 0)).below b0; simp only [List.set_cons_zero, List.set_cons_succ] at X0; have q7 := X0.cell (j := 7) rfl; have z7 := X0.frozen 7; have q3 := X0.cell (j := 3) rfl)
    have hs0 : (w.setCell ⟨b, 6, none⟩ (.int .i64 0)).heap.size = w.heap.size := by simp [World.setCell]
    rw [hs0] at G0 s0
    have X1 := X0.set0 7 (.slice (some ⟨w.heap.size, 0, none⟩) n.Oks.length n.Oks.length)
    simp only [List.set_cons_zero, List.set_cons_succ] at X1
    have t0 : Turn [b] w W0 := ((Turn.refl [b] w).set (p := ⟨b, 6, none⟩) (by simp) _).trans (Turn.of_below b0)
    have t1 := t0.set (p := ⟨b, 7, none⟩) (by simp) (.slice (some ⟨w.heap.size, 0, none⟩) n.Oks.length n.Oks.length)
    have G1 := G0.set_ne (a := ⟨b, 7, none⟩) (by simp; omega) (.slice (some ⟨w.heap.size, 0, none⟩) n.Oks.length n.Oks.length)
    have oO := ownS_blk (d := kInt) (e := 2) (B := B) (xs := List.replicate n.Oks.length 0) G1 (ownL_rep (d := kInt) (x := (0 : Int)) ⟨rfl, rfl⟩ _) hBw (by simp; unfold maxLen; omega)
    rw [List.length_replicate] at oO
    refine bodyPost_ret (v := .tuple #[.slice none 0 0, .int .i64 0]) (by simp [results, Tryz.results34, go_sem]) rfl ?_
    unfold DidBox
    rw [hR.out]
    refine ⟨A5, c5, some ⟨w.heap.size, 0, none⟩, n.Oks.length, A8, c8, A9, c9, f5, [w.heap.size], f8, f9, none, 0, [], rfl, ?_, ⟨OwnS.turn h5 t1 (by intro x hx hm; simp at hm; subst hm; exact b5 hx), ?_, OwnS.turn h8 t1 (by intro x hx hm; simp at hm; subst hm; exact b8 hx), OwnS.turn h9 t1 (by intro x hx hm; simp at hm; subst hm; exact b9 hx), ?_⟩, ownS_nil _ _ _, ?_, ?_, t1.mono (by simp), ?_⟩
    · rw [e1, e2]; simpa [hN] using X1
    · simpa using oO
    · have hx : ∀ x, x ∈ f5 ∨ x ∈ f8 ∨ x ∈ f9 → x ≠ w.heap.size := fun x hx => by
        have h1 := i5 x; have h2 := i8 x; have h3 := i9 x
        rcases hx with h | h | h
        · have := h1 h; omega
        · have := h2 h; omega
        · have := h3 h; omega
      simp only [List.nodup_append, List.mem_append, List.nodup_cons, List.mem_cons, List.not_mem_nil, or_false, not_false_eq_true, List.nodup_nil, and_true, true_and] at nd ⊢
      grind
    · have hx : ∀ x, x ∈ f5 ∨ x ∈ f8 ∨ x ∈ f9 → x ≠ w.heap.size := fun x hx => by
        have h1 := i5 x; have h2 := i8 x; have h3 := i9 x
        rcases hx with h | h | h
        · have := h1 h; omega
        · have := h2 h; omega
        · have := h3 h; omega
      simp only [List.nil_append, List.nodup_append, List.mem_append, List.nodup_cons, List.mem_cons, List.not_mem_nil, or_false, not_false_eq_true, List.nodup_nil, and_true, true_and] at nd ⊢
      grind
    · simp only [List.nil_append, List.mem_append, List.mem_cons, List.not_mem_nil, or_false, not_or]
      exact ⟨b5, by omega, b8, b9⟩
    · intro x hx
      simp only [List.nil_append, List.mem_append, List.mem_cons, List.not_mem_nil, or_false] at hx ⊢
      rcases hx with h | h | h | h
      · exact .inl (.inl h)
      · exact .inr (by omega)
      · exact .inl (.inr (.inr (.inl h)))
      · exact .inl (.inr (.inr (.inr h)))
  | false =>
    have hR := Lib.hid (show crashR n i s = { n with Commit := 0, Oks := List.replicate n.Oks.length 0, Asks := aloneL s i, Doers := List.replicate s zDoer } by unfold crashR; rw [hN]; rfl)
    rw [hN] at hB
    have q6 := hB.cell (j := 6) rfl
    have z6 := hB.frozen 6
    have q7 := hB.cell (j := 7) rfl
    go_enter Tryz.func34, Tryz.ntmps34
    go_wp2_with (refine wpList_mk 25 2 (.int .i64 0) 8 _ _ rfl rfl n.Oks.length rfl rfl (by kernel_rfl) (by kernel_rfl) (by decide) (by omega) ?_; intro W0 G0 b0 s0; clear q6 z6 q7; have X0 := (hB.set0 6 (.int .i64 0)).below b0; simp only [List.set_cons_zero, List.set_cons_succ] at X0; have q7 := X0.cell (j := 7) rfl; have z7 := X0.frozen 7; have q3 := X0.cell (j := 3) rfl)
    have hs0 : (w.setCell ⟨b, 6, none⟩ (.int .i64 0)).heap.size = w.heap.size := by simp [World.setCell]
    rw [hs0] at G0 s0
    have X1 := X0.set0 7 (.slice (some ⟨w.heap.size, 0, none⟩) n.Oks.length n.Oks.length)
    simp only [List.set_cons_zero, List.set_cons_succ] at X1
    have t0 : Turn [b] w W0 := ((Turn.refl [b] w).set (p := ⟨b, 6, none⟩) (by simp) _).trans (Turn.of_below b0)
    have t1 := t0.set (p := ⟨b, 7, none⟩) (by simp) (.slice (some ⟨w.heap.size, 0, none⟩) n.Oks.length n.Oks.length)
    have G1 := G0.set_ne (a := ⟨b, 7, none⟩) (by simp; omega) (.slice (some ⟨w.heap.size, 0, none⟩) n.Oks.length n.Oks.length)
    refine at_call (fun W => Blk W b 29 ([] ++ [.int .i64 i, .int .i64 s, .int .i64 n.View, .bool false, .int .i64 n.Last, .slice A5 n.Log.length c5, .int .i64 0, .slice (some ⟨w.heap.size, 0, none⟩) n.Oks.length n.Oks.length, .slice A8 n.Asks.length c8, .slice A9 n.Doers.length c9] ++ []) ∧ Blk W w.heap.size 2 (List.replicate n.Oks.length (Value.int IntKind.i64 0).cells.toList).flatten ∧ Turn [b] w W) ⟨X1, G1, t1⟩ ?_
    clear X0 X1 t0 t1 G0 G1 b0 s0 q7 z7 q3 W0
    rintro W1 ⟨Y, G, tY⟩
    have hg := G.lt
    refine (alone_c b 0 _ [] [] i s _ _ _ _ _ _ _ _ W1 Y rfl l1 l2).mono ?_
    rintro r w' ⟨g, h, rfl, x1, x2, x3, x4, x5⟩
    have tA := tY.trans x5
    go_wp2_with fail
    have gg := (x2.in g (by simp)).1
    have gh := (x3.in h (by simp)).1
    have G2 := G.keep (x5.block _ hg (by simp; omega))
    have oO := ownS_blk (d := kInt) (e := 2) (B := B) (xs := List.replicate n.Oks.length 0) G2 (ownL_rep (d := kInt) (x := (0 : Int)) ⟨rfl, rfl⟩ _) hBw (by simp; unfold maxLen; omega)
    rw [List.length_replicate] at oO
    have hsz := tY.size
    refine bodyPost_ret (v := .tuple #[.slice none 0 0, .int .i64 0]) (by simp [results, Tryz.results34, go_sem]) rfl ?_
    unfold DidBox
    rw [hR.out]
    refine ⟨A5, c5, some ⟨w.heap.size, 0, none⟩, n.Oks.length, some ⟨g, 0, none⟩, s, some ⟨h, 0, none⟩, s, f5, [w.heap.size], [g], [h], none, 0, [], rfl, ?_, ⟨OwnS.turn h5 tA (by intro x hx hm; simp at hm; subst hm; exact b5 hx), ?_, ?_, ?_, ?_⟩, ownS_nil _ _ _, nodup4 nd5 (fun x hx => (i5 x hx).2) (Nat.le_refl _) (by omega) (by omega) x4, ?_, tA.mono (by simp), ?_⟩
    · rw [e1, e2]; simpa [hN, aloneL_len] using x1
    · simpa using oO
    · simpa [aloneL_len] using x2.lift (B' := B) (fun b hb => by have := (x2.in b hb).1; omega)
    · simpa using x3.lift (B' := B) (fun b hb => by have := (x3.in b hb).1; omega)
    · exact nodup4 nd5 (fun x hx => (i5 x hx).2) (Nat.le_refl _) (by omega) (by omega) x4
    · simp only [List.nil_append, List.mem_append, List.mem_cons, List.not_mem_nil, or_false, not_or]
      exact ⟨b5, by omega, by omega, by omega⟩
    · intro x hx
      simp only [List.nil_append, List.mem_append, List.mem_cons, List.not_mem_nil, or_false] at hx ⊢
      rcases hx with h | h | h | h
      · exact .inl (.inl h)
      · exact .inr (by omega)
      · exact .inr (by omega)
      · exact .inr (by omega)
theorem isEnough_c (w : World) (p : Addr) (m s : Int) (h1 : w.cell? ⟨p.block, p.off + 1, none⟩ = some (.int .i64 s)) (hm : 0 ≤ m) (hm2 : m ≤ 1000) :
    Calls Tryz.prog 81 #[.pointer (some p), .int .i64 m] w fun e w' => e = .returned (.bool (decide (s < 2 * m))) ∧ w = w' := by
  go_enter Tryz.func81, Tryz.ntmps81
  go_wp2
  go_ret; exact ⟨rfl, rfl⟩
def askR (n : SReplica) (i s : Nat) (v : Int) : SReplica := { n with View := v, Normal := false, Oks := [], Asks := aloneL s i, Doers := List.replicate s zDoer }
def settleR (n : SReplica) (i s : Nat) (v : Int) : SReplica := { n with View := v, Normal := true, Last := v, Oks := oksZ i s v, Asks := [], Doers := [] }
def timeoutR (n : SReplica) (i s v : Nat) : SReplica := if s = 1 then settleR n i s ((v : Int) + 1) else askR n i s ((v : Int) + 1)
def timeoutM (i s v : Nat) : List SMail := if s = 1 then [] else changesL i s (v + 1)
set_option maxRecDepth 100000 in
set_option maxHeartbeats 2000000 in
theorem timeout_max (b : Nat) (n : SReplica) (A5 : Option Addr) (c5 : Nat) (A7 : Option Addr) (c7 : Nat) (A8 : Option Addr) (c8 : Nat) (A9 : Option Addr) (c9 : Nat) (f5 f7 f8 f9 : List Nat) (B : Nat) (w : World) (hB : Blk w b 29 [.int .i64 n.Id, .int .i64 n.Size, .int .i64 n.View, .bool n.Normal, .int .i64 n.Last, .slice A5 n.Log.length c5, .int .i64 n.Commit, .slice A7 n.Oks.length c7, .slice A8 n.Asks.length c8, .slice A9 n.Doers.length c9]) (hn : HasReplica B w n A5 c5 A7 c7 A8 c8 A9 c9 f5 f7 f8 f9)
    (hb : b ∉ f5 ++ (f7 ++ (f8 ++ f9))) (hv : n.View = 200) :
    Calls Tryz.prog 35 #[.pointer (some ⟨b, 0, none⟩)] w fun r w' => DidBox b n [] 2 (f5 ++ (f7 ++ (f8 ++ f9))) B w r w' := by
  have hB' := hB
  rw [hv] at hB
  have q2 := hB.cell (j := 2) rfl
  go_enter Tryz.func35, Tryz.ntmps35
  go_wp2_with fail
  refine bodyPost_ret (v := .tuple #[.slice none 0 0, .int .i64 2]) (by simp [results, Tryz.results35, go_sem]) rfl ?_
  exact ⟨A5, c5, A7, c7, A8, c8, A9, c9, f5, f7, f8, f9, none, 0, [], rfl, hB', hn, ownS_nil _ _ _, by simpa using hn.2.2.2.2, by simpa using hb, Turn.refl _ _, fun x hx => .inl (by simpa using hx)⟩
set_option maxRecDepth 100000 in
set_option maxHeartbeats 2000000 in
theorem timeout_c (b : Nat) (n : SReplica) (i s v : Nat) (A5 : Option Addr) (c5 : Nat) (A7 : Option Addr) (c7 : Nat) (A8 : Option Addr) (c8 : Nat) (A9 : Option Addr) (c9 : Nat) (f5 f7 f8 f9 : List Nat) (B : Nat) (w : World) (hB : Blk w b 29 [.int .i64 n.Id, .int .i64 n.Size, .int .i64 n.View, .bool n.Normal, .int .i64 n.Last, .slice A5 n.Log.length c5, .int .i64 n.Commit, .slice A7 n.Oks.length c7, .slice A8 n.Asks.length c8, .slice A9 n.Doers.length c9]) (hn : HasReplica B w n A5 c5 A7 c7 A8 c8 A9 c9 f5 f7 f8 f9)
    (hb : b ∉ f5 ++ (f7 ++ (f8 ++ f9))) (hBw : B ≤ w.heap.size) (hf : NumsRep n i s v) (hv : v < 200) :
    Calls Tryz.prog 35 #[.pointer (some ⟨b, 0, none⟩)] w fun r w' => DidBox b (timeoutR n i s v) (timeoutM i s v) 0 (f5 ++ (f7 ++ (f8 ++ f9))) B w r w' := by
  obtain ⟨h5, h7, h8, h9, nd⟩ := hn
  have i5 := h5.in
  obtain ⟨e1, e2, e3, l1, l2, l3, l4, l5, l6, _, _⟩ := hf
  have hB0 := hB
  rw [e1, e2, e3] at hB
  simp only [List.mem_append, not_or] at hb
  obtain ⟨b5, b7, b8, b9⟩ := hb
  have hlt := hB.lt
  have nd5 : f5.Nodup := (List.nodup_append.1 nd).1
  have q2 := hB.cell (j := 2) rfl
  have hv3 : ((v : Int) == 200) = false := beq_eq_false_iff_ne.2 (by omega)
  have hA := fun (W : World) (Y : Blk W b 29 [.int .i64 i, .int .i64 s, .int .i64 v, .bool n.Normal, .int .i64 n.Last, .slice A5 n.Log.length c5, .int .i64 n.Commit, .slice A7 n.Oks.length c7, .slice A8 n.Asks.length c8, .slice A9 n.Doers.length c9]) => ask_c b 0 _ [] [] i s ((v : Int) + 1) _ _ _ _ _ _ _ _ W Y rfl l1 l2
  go_enter Tryz.func35, Tryz.ntmps35
  go_wp2_with fail
  refine (hA w hB).mono ?_
  rintro r w1 ⟨g, h, rfl, x1, x2, x3, x4, x5⟩
  clear q2 hA
  have q1 := x1.mid (o := 0) rfl (j := 1) rfl
  have gg := (x2.in g (by simp)).1
  have gh := (x3.in h (by simp)).1
  have hE := isEnough_c w1 ⟨b, 0, none⟩ 1 s (by simpa using q1) (by omega) (by omega)
  by_cases hs : s = 1
  · have hd : decide ((s : Int) < 2 * 1) = true := by rw [hs]; rfl
    rw [hd] at hE
    clear hd q1
    go_wp2_with fail
    refine hE.mono ?_
    rintro r w2 ⟨rfl, rfl⟩
    go_wp2_with fail
    refine (settle_c b 0 _ [] [] i s ((v : Int) + 1) _ _ _ _ _ _ _ w1 x1 rfl l1 l2 (by omega) (by omega)).mono ?_
    rintro r w3 ⟨A7', c7', f7', rfl, y1, y2, y3, y4⟩
    go_wp2_with fail
    have tA := x5.trans y4
    have hz := x5.size
    have i7 := y2.in
    refine bodyPost_ret (v := .tuple #[.slice none 0 0, .int .i64 0]) (by simp [results, Tryz.results35, go_sem]) rfl ?_
    unfold DidBox
    rw [show timeoutR n i s v = settleR n i s ((v : Int) + 1) from if_pos hs, show timeoutM i s v = [] from if_pos hs]
    have nn : ([] ++ (f5 ++ (f7' ++ ([] ++ [])))).Nodup := by
      simp only [List.nil_append, List.append_nil]
      exact nodup_join (m := w.heap.size) nd5 y3 (fun b hb => (i5 b hb).2) (fun b hb => by have := (i7 b hb).1; omega)
    refine ⟨A5, c5, A7', c7', none, 0, none, 0, f5, f7', [], [], none, 0, [], rfl, ?_, ⟨OwnS.turn h5 tA (by intro x hx hm; simp at hm; subst hm; exact b5 hx), ?_, ownS_nil _ _ _, ownS_nil _ _ _, nn⟩, ownS_nil _ _ _, nn, ?_, tA.mono (by simp), ?_⟩
    · simp only [settleR]; rw [e1, e2]; simpa using y1
    · exact y2.lift (fun b hb => by have := (i7 b hb).1; omega)
    · simp only [List.nil_append, List.append_nil, List.mem_append, not_or]
      exact ⟨b5, fun hm => by have := (i7 b hm).1; omega⟩
    · intro x hx
      simp only [List.nil_append, List.append_nil, List.mem_append] at hx ⊢
      rcases hx with h | h
      · exact .inl (.inl h)
      · have := (i7 x h).1; exact .inr (by omega)
  · have hd : decide ((s : Int) < 2 * 1) = false := decide_eq_false (by omega)
    rw [hd] at hE
    clear hd q1
    go_wp2_with fail
    refine hE.mono ?_
    rintro r w2 ⟨rfl, rfl⟩
    have c0 := x1.mid (o := 0) rfl (j := 0) rfl
    have c1 := x1.mid (o := 0) rfl (j := 1) rfl
    have c2 := x1.mid (o := 0) rfl (j := 2) rfl
    have hC := changes_c w1 ⟨b, 0, none⟩ i s (v + 1) (by simpa using c0) (by simpa using c1) (by simpa using c2) l2
    clear c0 c1 c2
    go_wp2_with fail
    refine hC.mono ?_
    rintro r w3 ⟨As, cs, fs, rfl, y1, y2, y3⟩
    go_wp2_with fail
    have is := y1.in
    have tA := x5.trans (Turn.of_below y3)
    have hz := x5.size
    have x2' := OwnS.keep x2 (fun b hb => y3.block b (x2.in b hb).2)
    have x3' := OwnS.keep x3 (fun b hb => y3.block b (x3.in b hb).2)
    refine bodyPost_ret (v := .tuple #[.slice As (changesL i s (v + 1)).length cs, .int .i64 0]) (by simp [results, Tryz.results35, go_sem]) rfl ?_
    unfold DidBox
    rw [show timeoutR n i s v = askR n i s ((v : Int) + 1) from if_neg hs, show timeoutM i s v = changesL i s (v + 1) from if_neg hs]
    have lg := (x2.in g (by simp)).2
    have lh := (x3.in h (by simp)).2
    have nn : (f5 ++ ([] ++ ([g] ++ [h]))).Nodup := by
      have : ∀ x, x ∈ f5 → x ≠ g ∧ x ≠ h := fun x hx => by have := (i5 x hx).2; omega
      simp only [List.nil_append, List.nodup_append, List.nodup_cons, List.mem_cons, List.mem_append, List.not_mem_nil, or_false, not_false_eq_true, List.nodup_nil, and_true, true_and]
      grind
    refine ⟨A5, c5, none, 0, some ⟨g, 0, none⟩, s, some ⟨h, 0, none⟩, s, f5, [], [g], [h], As, cs, fs, rfl, ?_, ⟨OwnS.turn h5 tA (by intro x hx hm; simp at hm; subst hm; exact b5 hx), ownS_nil _ _ _, ?_, ?_, nn⟩, y1.lift (fun b hb => by have := (is b hb).1; omega), ?_, ?_, tA.mono (by simp), ?_⟩
    · simp only [askR]; rw [e1, e2]; simpa [aloneL_len] using x1.below y3
    · simpa [aloneL_len, askR] using x2'.lift (B' := B) (fun b hb => by have := (x2.in b hb).1; omega)
    · simpa [askR] using x3'.lift (B' := B) (fun b hb => by have := (x3.in b hb).1; omega)
    · refine List.nodup_append.2 ⟨y2, nn, fun a ha c hc hac => ?_⟩
      have h1 := (is a ha).1
      simp only [List.nil_append, List.mem_append, List.mem_cons, List.not_mem_nil, or_false] at hc
      rcases hc with hc | hc | hc
      · have := (i5 c hc).2; omega
      · omega
      · omega
    · simp only [List.nil_append, List.mem_append, List.mem_cons, List.not_mem_nil, or_false, not_or]
      exact ⟨fun hm => by have := (is b hm).1; omega, b5, by omega, by omega⟩
    · intro x hx
      simp only [List.nil_append, List.mem_append, List.mem_cons, List.not_mem_nil, or_false] at hx ⊢
      rcases hx with h | h | h | h
      · have := (is x h).1; exact .inr (by omega)
      · exact .inl (.inl h)
      · exact .inr (by omega)
      · exact .inr (by omega)
end Go.Proofs.YtdjfehjddfbbjaaGreat

/- What comes of something that a node does on its own: the program's done (written by gH8.py, own work). -/
set_option linter.unusedVariables false
set_option linter.unusedSimpArgs false
namespace Go.Proofs.YtdjfehjddfbbjaaGreat
open Go Go.RowKit Mk
/-- A call that lays a node's result. -/
def LaidRR (x : SReplicaResult) (w : World) (r : Ending) (w' : World) : Prop :=
  ∃ A6 c6 A8 c8 A9 c9 A10 c10 A11 c11 f6 f8 f9 f10 f11, r = .returned (.agg #[.int .i64 x.Code, .int .i64 x.Replica.Id, .int .i64 x.Replica.Size, .int .i64 x.Replica.View, .bool x.Replica.Normal, .int .i64 x.Replica.Last, .slice A6 x.Replica.Log.length c6, .int .i64 x.Replica.Commit, .slice A8 x.Replica.Oks.length c8, .slice A9 x.Replica.Asks.length c9, .slice A10 x.Replica.Doers.length c10, .slice A11 x.Send.length c11]) ∧ HasReplicaResult w.heap.size w' x A6 c6 A8 c8 A9 c9 A10 c10 A11 c11 f6 f8 f9 f10 f11 ∧ Below w.heap.size w w'
theorem LaidRR.bad {w w' : World} (k : Int) (hb : Below w.heap.size w w') : LaidRR ⟨k, zReplica, []⟩ w (.returned (.agg #[.int .i64 k, .int .i64 0, .int .i64 0, .int .i64 0, .bool false, .int .i64 0, .slice none 0 0, .int .i64 0, .slice none 0 0, .slice none 0 0, .slice none 0 0, .slice none 0 0])) w' :=
  ⟨none, 0, none, 0, none, 0, none, 0, none, 0, [], [], [], [], [], rfl, ⟨ownS_nil _ _ _, ownS_nil _ _ _, ownS_nil _ _ _, ownS_nil _ _ _, ownS_nil _ _ _, by simp⟩, hb⟩
theorem LaidRR.base {x : SReplicaResult} {w w1 w' : World} {r : Ending} (h : LaidRR x w1 r w') (hb : Below w.heap.size w w1) : LaidRR x w r w' := by
  obtain ⟨A6, c6, A8, c8, A9, c9, A10, c10, A11, c11, f6, f8, f9, f10, f11, rfl, ⟨h1, h2, h3, h4, h5, nd⟩, b⟩ := h
  have hs := hb.size
  exact ⟨A6, c6, A8, c8, A9, c9, A10, c10, A11, c11, f6, f8, f9, f10, f11, rfl, ⟨h1.lift (fun b hb => by have := (h1.in b hb).1; omega), h2.lift (fun b hb => by have := (h2.in b hb).1; omega), h3.lift (fun b hb => by have := (h3.in b hb).1; omega), h4.lift (fun b hb => by have := (h4.in b hb).1; omega), h5.lift (fun b hb => by have := (h5.in b hb).1; omega), nd⟩, below_trans hb b⟩
/-- What is asked of a method that is handed to done. -/
def Does (g : Nat) (cb : Array Value) (n n' : SReplica) (ms : List SMail) (code : Int) (w0 : World) : Prop :=
  ∀ (b : Nat) (A5 : Option Addr) (c5 : Nat) (A7 : Option Addr) (c7 : Nat) (A8 : Option Addr) (c8 : Nat) (A9 : Option Addr) (c9 : Nat) (f5 f7 f8 f9 : List Nat) (B : Nat) (W : World), Below w0.heap.size w0 W → Blk W b 29 [.int .i64 n.Id, .int .i64 n.Size, .int .i64 n.View, .bool n.Normal, .int .i64 n.Last, .slice A5 n.Log.length c5, .int .i64 n.Commit, .slice A7 n.Oks.length c7, .slice A8 n.Asks.length c8, .slice A9 n.Doers.length c9] → HasReplica B W n A5 c5 A7 c7 A8 c8 A9 c9 f5 f7 f8 f9 → b ∉ f5 ++ (f7 ++ (f8 ++ f9)) → B ≤ W.heap.size →
    Calls Tryz.prog g (#[.pointer (some ⟨b, 0, none⟩)] ++ cb) W fun r W' => DidBox b n' ms code (f5 ++ (f7 ++ (f8 ++ f9))) B W r W'
theorem Does.mono {g : Nat} {cb : Array Value} {n n' : SReplica} {ms : List SMail} {code : Int} {w0 w1 : World} (h : Does g cb n n' ms code w0) (hb : Below w0.heap.size w0 w1) : Does g cb n n' ms code w1 :=
  fun b A5 c5 A7 c7 A8 c8 A9 c9 f5 f7 f8 f9 B W hW => h b A5 c5 A7 c7 A8 c8 A9 c9 f5 f7 f8 f9 B W (below_trans hb hW)
set_option maxRecDepth 100000 in
set_option maxHeartbeats 2000000 in
theorem done_bad (v : Value) (n : SReplica) (A5 : Option Addr) (c5 : Nat) (A7 : Option Addr) (c7 : Nat) (A8 : Option Addr) (c8 : Nat) (A9 : Option Addr) (c9 : Nat) (w : World) (h5 : RdS kEntry w A5 c5 n.Log) (h7 : RdS kInt w A7 c7 n.Oks) (h8 : RdS kBool w A8 c8 n.Asks) (h9 : RdS kDoer w A9 c9 n.Doers) (q : (repF n != 0) = true) :
    Calls Tryz.prog 33 #[.agg #[.int .i64 n.Id, .int .i64 n.Size, .int .i64 n.View, .bool n.Normal, .int .i64 n.Last, .slice A5 n.Log.length c5, .int .i64 n.Commit, .slice A7 n.Oks.length c7, .slice A8 n.Asks.length c8, .slice A9 n.Doers.length c9], v] w fun r w' => LaidRR ⟨repF n, zReplica, []⟩ w r w' := by
  go_enter Tryz.func33, Tryz.ntmps33
  go_wp2_with fail
  refine (replicaFault_c n _ _ _ _ _ _ _ _ _ (h5.below (by repeat (first | (with_reducible assumption) | (with_reducible exact Below.refl _ _) | (with_reducible apply below_alloc) | (with_reducible apply below_drewN) | (with_reducible apply Below.drew) | (with_reducible refine below_set ?_ (by dsimp only; omega) _) | (with_reducible refine below_trans ?_ (by assumption))))) (h7.below (by repeat (first | (with_reducible assumption) | (with_reducible exact Below.refl _ _) | (with_reducible apply below_alloc) | (with_reducible apply below_drewN) | (with_reducible apply Below.drew) | (with_reducible refine below_set ?_ (by dsimp only; omega) _) | (with_reducible refine below_trans ?_ (by assumption))))) (h8.below (by repeat (first | (with_reducible assumption) | (with_reducible exact Below.refl _ _) | (with_reducible apply below_alloc) | (with_reducible apply below_drewN) | (with_reducible apply Below.drew) | (with_reducible refine below_set ?_ (by dsimp only; omega) _) | (with_reducible refine below_trans ?_ (by assumption))))) (h9.below (by repeat (first | (with_reducible assumption) | (with_reducible exact Below.refl _ _) | (with_reducible apply below_alloc) | (with_reducible apply below_drewN) | (with_reducible apply Below.drew) | (with_reducible refine below_set ?_ (by dsimp only; omega) _) | (with_reducible refine below_trans ?_ (by assumption)))))).mono ?_
  rintro e w1 ⟨rfl, hb1⟩
  have bw : Below w.heap.size w w1 := by repeat (first | (with_reducible assumption) | (with_reducible exact Below.refl _ _) | (with_reducible apply below_alloc) | (with_reducible apply below_drewN) | (with_reducible apply Below.drew) | (with_reducible refine below_set ?_ (by dsimp only; omega) _) | (with_reducible refine below_trans ?_ (by assumption)))
  have zB : Blk w1 (w.heap.size + 1) 33 [.int .i64 0, .int .i64 0, .int .i64 0, .int .i64 0, .bool false, .int .i64 0, .slice none 0 0, .int .i64 0, .slice none 0 0, .slice none 0 0, .slice none 0 0, .slice none 0 0] := by
    have := (blk_alloc (w.alloc (.cells #[.int .i64 n.Id, .int .i64 n.Size, .int .i64 n.View, .bool n.Normal, .int .i64 n.Last, .slice A5 n.Log.length c5, .int .i64 n.Commit, .slice A7 n.Oks.length c7, .slice A8 n.Asks.length c8, .slice A9 n.Doers.length c9] 29)) [.int .i64 0, .int .i64 0, .int .i64 0, .int .i64 0, .bool false, .int .i64 0, .slice none 0 0, .int .i64 0, .slice none 0 0, .slice none 0 0, .slice none 0 0, .slice none 0 0] 33).below hb1
    rwa [Deep.nblk_alloc] at this
  have r0 := zB.cell (j := 0) rfl
  have y0 := zB.frozen 0
  have r1 := zB.cell (j := 1) rfl
  have y1 := zB.frozen 1
  have r2 := zB.cell (j := 2) rfl
  have y2 := zB.frozen 2
  have r3 := zB.cell (j := 3) rfl
  have y3 := zB.frozen 3
  have r4 := zB.cell (j := 4) rfl
  have y4 := zB.frozen 4
  have r5 := zB.cell (j := 5) rfl
  have y5 := zB.frozen 5
  have r6 := zB.cell (j := 6) rfl
  have y6 := zB.frozen 6
  have r7 := zB.cell (j := 7) rfl
  have y7 := zB.frozen 7
  have r8 := zB.cell (j := 8) rfl
  have y8 := zB.frozen 8
  have r9 := zB.cell (j := 9) rfl
  have y9 := zB.frozen 9
  have r10 := zB.cell (j := 10) rfl
  have y10 := zB.frozen 10
  have r11 := zB.cell (j := 11) rfl
  have y11 := zB.frozen 11
  clear zB
  go_wp2_with fail
  refine bodyPost_ret (v := .agg #[.int .i64 (repF n), .int .i64 0, .int .i64 0, .int .i64 0, .bool false, .int .i64 0, .slice none 0 0, .int .i64 0, .slice none 0 0, .slice none 0 0, .slice none 0 0, .slice none 0 0]) (by simp [results, Tryz.results33, go_sem, r0, r1, r2, r3, r4, r5, r6, r7, r8, r9, r10, r11]) rfl (LaidRR.bad _ ?_)
  repeat (first | (with_reducible assumption) | (with_reducible exact Below.refl _ _) | (with_reducible apply below_alloc) | (with_reducible apply below_drewN) | (with_reducible apply Below.drew) | (with_reducible refine below_set ?_ (by dsimp only; omega) _) | (with_reducible refine below_trans ?_ (by assumption)))
set_option maxRecDepth 100000 in
set_option maxHeartbeats 4000000 in
theorem done_did (g : Nat) (cb : Array Value) (eg : ∀ args w, (callFunc g args).run Tryz.prog w = .ok (.enter g args) w) (n n' : SReplica) (ms : List SMail) (code : Int) (A5 : Option Addr) (c5 : Nat) (A7 : Option Addr) (c7 : Nat) (A8 : Option Addr) (c8 : Nat) (A9 : Option Addr) (c9 : Nat) (w : World) (h5 : RdS kEntry w A5 c5 n.Log) (h7 : RdS kInt w A7 c7 n.Oks) (h8 : RdS kBool w A8 c8 n.Asks) (h9 : RdS kDoer w A9 c9 n.Doers) (q : (repF n != 0) = false) (hs : SmallRep n) (hs' : SmallRep n') (hd : Does g cb n n' ms code w) :
    Calls Tryz.prog 33 #[.agg #[.int .i64 n.Id, .int .i64 n.Size, .int .i64 n.View, .bool n.Normal, .int .i64 n.Last, .slice A5 n.Log.length c5, .int .i64 n.Commit, .slice A7 n.Oks.length c7, .slice A8 n.Asks.length c8, .slice A9 n.Doers.length c9], .func (.func g) #[] cb] w fun r w' => LaidRR (if code != 0 then ⟨code, zReplica, []⟩ else ⟨0, n', ms⟩) w r w' := by
  generalize hX : (if code != 0 then (⟨code, zReplica, []⟩ : SReplicaResult) else ⟨0, n', ms⟩) = X
  have HX := Lib.hid hX
  clear hX
  go_enter Tryz.func33, Tryz.ntmps33
  go_wp2_with fail
  refine (replicaFault_c n _ _ _ _ _ _ _ _ _ (h5.below (by repeat (first | (with_reducible assumption) | (with_reducible exact Below.refl _ _) | (with_reducible apply below_alloc) | (with_reducible apply below_drewN) | (with_reducible apply Below.drew) | (with_reducible refine below_set ?_ (by dsimp only; omega) _) | (with_reducible refine below_trans ?_ (by assumption))))) (h7.below (by repeat (first | (with_reducible assumption) | (with_reducible exact Below.refl _ _) | (with_reducible apply below_alloc) | (with_reducible apply below_drewN) | (with_reducible apply Below.drew) | (with_reducible refine below_set ?_ (by dsimp only; omega) _) | (with_reducible refine below_trans ?_ (by assumption))))) (h8.below (by repeat (first | (with_reducible assumption) | (with_reducible exact Below.refl _ _) | (with_reducible apply below_alloc) | (with_reducible apply below_drewN) | (with_reducible apply Below.drew) | (with_reducible refine below_set ?_ (by dsimp only; omega) _) | (with_reducible refine below_trans ?_ (by assumption))))) (h9.below (by repeat (first | (with_reducible assumption) | (with_reducible exact Below.refl _ _) | (with_reducible apply below_alloc) | (with_reducible apply below_drewN) | (with_reducible apply Below.drew) | (with_reducible refine below_set ?_ (by dsimp only; omega) _) | (with_reducible refine below_trans ?_ (by assumption)))))).mono ?_
  rintro e w1 ⟨rfl, hb1⟩
  have bw1 : Below w.heap.size w w1 := by repeat (first | (with_reducible assumption) | (with_reducible exact Below.refl _ _) | (with_reducible apply below_alloc) | (with_reducible apply below_drewN) | (with_reducible apply Below.drew) | (with_reducible refine below_set ?_ (by dsimp only; omega) _) | (with_reducible refine below_trans ?_ (by assumption)))
  have xB : Blk w1 w.heap.size 29 [.int .i64 n.Id, .int .i64 n.Size, .int .i64 n.View, .bool n.Normal, .int .i64 n.Last, .slice A5 n.Log.length c5, .int .i64 n.Commit, .slice A7 n.Oks.length c7, .slice A8 n.Asks.length c8, .slice A9 n.Doers.length c9] := ((blk_alloc w [.int .i64 n.Id, .int .i64 n.Size, .int .i64 n.View, .bool n.Normal, .int .i64 n.Last, .slice A5 n.Log.length c5, .int .i64 n.Commit, .slice A7 n.Oks.length c7, .slice A8 n.Asks.length c8, .slice A9 n.Doers.length c9] 29).below (below_alloc (Below.refl _ _) _)).below hb1
  have zB : Blk w1 (w.heap.size + 1) 33 [.int .i64 0, .int .i64 0, .int .i64 0, .int .i64 0, .bool false, .int .i64 0, .slice none 0 0, .int .i64 0, .slice none 0 0, .slice none 0 0, .slice none 0 0, .slice none 0 0] := by
    have := (blk_alloc (w.alloc (.cells #[.int .i64 n.Id, .int .i64 n.Size, .int .i64 n.View, .bool n.Normal, .int .i64 n.Last, .slice A5 n.Log.length c5, .int .i64 n.Commit, .slice A7 n.Oks.length c7, .slice A8 n.Asks.length c8, .slice A9 n.Doers.length c9] 29)) [.int .i64 0, .int .i64 0, .int .i64 0, .int .i64 0, .bool false, .int .i64 0, .slice none 0 0, .int .i64 0, .slice none 0 0, .slice none 0 0, .slice none 0 0, .slice none 0 0] 33).below hb1
    rwa [Deep.nblk_alloc] at this
  have lo1 : w.heap.size + 2 ≤ w1.heap.size := by have := hb1.size; simp only [Deep.nblk_alloc] at this; omega
  have x0 := xB.cell (j := 0) rfl
  have x1 := xB.cell (j := 1) rfl
  have x2 := xB.cell (j := 2) rfl
  have x3 := xB.cell (j := 3) rfl
  have x4 := xB.cell (j := 4) rfl
  have x5 := xB.cell (j := 5) rfl
  have x6 := xB.cell (j := 6) rfl
  have x7 := xB.cell (j := 7) rfl
  have x8 := xB.cell (j := 8) rfl
  have x9 := xB.cell (j := 9) rfl
  go_wp2_with fail
  clear x0 x1 x2 x3 x4 x5 x6 x7 x8 x9
  refine (ownReplica_c n _ _ _ _ _ _ _ _ w1 (h5.below bw1) (h7.below bw1) (h8.below bw1) (h9.below bw1) hs).mono ?_
  rintro r w2 ⟨B5, d5, B7, d7, B8, d8, B9, d9, f5, f7, f8, f9, rfl, hn2, hb2⟩
  have hs2 := hb2.size
  have k5 := hn2.1.in
  have k7 := hn2.2.1.in
  have k8 := hn2.2.2.1.in
  have k9 := hn2.2.2.2.1.in
  go_wp2_with fail
  refine at_call (fun W => Blk W w2.heap.size 29 [.int .i64 n.Id, .int .i64 n.Size, .int .i64 n.View, .bool n.Normal, .int .i64 n.Last, .slice B5 n.Log.length d5, .int .i64 n.Commit, .slice B7 n.Oks.length d7, .slice B8 n.Asks.length d8, .slice B9 n.Doers.length d9] ∧ HasReplica w1.heap.size W n B5 d5 B7 d7 B8 d8 B9 d9 f5 f7 f8 f9 ∧ Below w1.heap.size w1 W ∧ w2.heap.size < W.heap.size) ⟨blk_alloc w2 [.int .i64 n.Id, .int .i64 n.Size, .int .i64 n.View, .bool n.Normal, .int .i64 n.Last, .slice B5 n.Log.length d5, .int .i64 n.Commit, .slice B7 n.Oks.length d7, .slice B8 n.Asks.length d8, .slice B9 n.Doers.length d9] _, ⟨OwnS.keep hn2.1 (fun b hb => Below.heap_alloc _ _ _ (k5 b hb).2), OwnS.keep hn2.2.1 (fun b hb => Below.heap_alloc _ _ _ (k7 b hb).2), OwnS.keep hn2.2.2.1 (fun b hb => Below.heap_alloc _ _ _ (k8 b hb).2), OwnS.keep hn2.2.2.2.1 (fun b hb => Below.heap_alloc _ _ _ (k9 b hb).2), hn2.2.2.2.2⟩, below_alloc hb2 _, by rw [Deep.nblk_alloc]; omega⟩ ?_
  rintro W3 ⟨oB, hn3, hb3, s3⟩
  clear hn2 hb2
  have zB3 := zB.below hb3
  have hnb : w2.heap.size ∉ f5 ++ (f7 ++ (f8 ++ f9)) := by
    simp only [List.mem_append, not_or]
    exact ⟨fun h => by have := (k5 _ h).2; omega, fun h => by have := (k7 _ h).2; omega, fun h => by have := (k8 _ h).2; omega, fun h => by have := (k9 _ h).2; omega⟩
  have hfl : ∀ x ∈ w2.heap.size :: (f5 ++ (f7 ++ (f8 ++ f9))), w1.heap.size ≤ x := by
    intro x hx
    simp only [List.mem_cons, List.mem_append] at hx
    rcases hx with rfl | h | h | h | h
    · omega
    · exact (k5 x h).1
    · exact (k7 x h).1
    · exact (k8 x h).1
    · exact (k9 x h).1
  refine (hd w2.heap.size B5 d5 B7 d7 B8 d8 B9 d9 f5 f7 f8 f9 w1.heap.size W3 (below_trans bw1 hb3) oB hn3 hnb (by omega)).mono ?_
  rintro r w4 ⟨C5, e5, C7, e7, C8, e8, C9, e9, g5, g7, g8, g9, As, cs, fs, rfl, oB4, hn4, hm4, nd4, nb4, t4, fr4⟩
  have hb4 : Below w1.heap.size w1 w4 := hb3.trans (t4.below hfl (by omega))
  have zB4 := zB3.keep (t4.block _ zB3.lt (fun hm => by have := hfl _ hm; omega))
  have bw4 : Below w.heap.size w w4 := below_trans bw1 hb4
  have s4 := hb4.size
  have im := hm4.in
  by_cases qc : code = 0
  · subst qc
    have hX := HX.out
    rw [if_neg (by simp)] at hX
    subst hX
    clear HX
    have x0 := oB4.cell (j := 0) rfl
    have x1 := oB4.cell (j := 1) rfl
    have x2 := oB4.cell (j := 2) rfl
    have x3 := oB4.cell (j := 3) rfl
    have x4 := oB4.cell (j := 4) rfl
    have x5 := oB4.cell (j := 5) rfl
    have x6 := oB4.cell (j := 6) rfl
    have x7 := oB4.cell (j := 7) rfl
    have x8 := oB4.cell (j := 8) rfl
    have x9 := oB4.cell (j := 9) rfl
    go_wp2_with fail
    clear x0 x1 x2 x3 x4 x5 x6 x7 x8 x9
    refine (ownReplica_c n' _ _ _ _ _ _ _ _ w4 (ownS_rds hn4.1).1 (ownS_rds hn4.2.1).1 (ownS_rds hn4.2.2.1).1 (ownS_rds hn4.2.2.2.1).1 hs').mono ?_
    rintro r w5 ⟨D5, a5, D7, a7, D8, a8, D9, a9, p5, p7, p8, p9, rfl, hn5, hb5⟩
    have zB5 := zB4.below hb5
    have bw5 := below_trans bw4 hb5
    have hm5 := OwnS.keep hm4 (fun b hb => hb5.block b (im b hb).2)
    have s5 := hb5.size
    have j5 := hn5.1.in
    have j7 := hn5.2.1.in
    have j8 := hn5.2.2.1.in
    have j9 := hn5.2.2.2.1.in
    have r0 := zB5.cell (j := 0) rfl
    have y0 := zB5.frozen 0
    have r1 := zB5.cell (j := 1) rfl
    have y1 := zB5.frozen 1
    have r2 := zB5.cell (j := 2) rfl
    have y2 := zB5.frozen 2
    have r3 := zB5.cell (j := 3) rfl
    have y3 := zB5.frozen 3
    have r4 := zB5.cell (j := 4) rfl
    have y4 := zB5.frozen 4
    have r5 := zB5.cell (j := 5) rfl
    have y5 := zB5.frozen 5
    have r6 := zB5.cell (j := 6) rfl
    have y6 := zB5.frozen 6
    have r7 := zB5.cell (j := 7) rfl
    have y7 := zB5.frozen 7
    have r8 := zB5.cell (j := 8) rfl
    have y8 := zB5.frozen 8
    have r9 := zB5.cell (j := 9) rfl
    have y9 := zB5.frozen 9
    have r10 := zB5.cell (j := 10) rfl
    have y10 := zB5.frozen 10
    have r11 := zB5.cell (j := 11) rfl
    have y11 := zB5.frozen 11
    clear zB5 zB4 zB3 zB
    go_wp2_with fail
    refine bodyPost_ret (v := .agg #[.int .i64 0, .int .i64 n'.Id, .int .i64 n'.Size, .int .i64 n'.View, .bool n'.Normal, .int .i64 n'.Last, .slice D5 n'.Log.length a5, .int .i64 n'.Commit, .slice D7 n'.Oks.length a7, .slice D8 n'.Asks.length a8, .slice D9 n'.Doers.length a9, .slice As ms.length cs]) (by simp [results, Tryz.results33, go_sem, r0, r1, r2, r3, r4, r5, r6, r7, r8, r9, r10, r11]) rfl ?_
    have nm : fs.Nodup := (List.nodup_append.1 nd4).1
    have nn : (p5 ++ (p7 ++ (p8 ++ (p9 ++ fs)))).Nodup := by
      rw [show p5 ++ (p7 ++ (p8 ++ (p9 ++ fs))) = (p5 ++ (p7 ++ (p8 ++ p9))) ++ fs by simp]
      refine List.nodup_append.2 ⟨hn5.2.2.2.2, nm, fun x hx y hy e => ?_⟩
      have h1 := (im y hy).2
      simp only [List.mem_append] at hx
      rcases hx with h | h | h | h
      · have := (j5 x h).1; omega
      · have := (j7 x h).1; omega
      · have := (j8 x h).1; omega
      · have := (j9 x h).1; omega
    refine ⟨D5, a5, D7, a7, D8, a8, D9, a9, As, cs, p5, p7, p8, p9, fs, rfl, ⟨?_, ?_, ?_, ?_, ?_, nn⟩, ?_⟩
    · refine OwnS.past (lo := w.heap.size + 2) (w := w5) hn5.1 ?_ (by omega) (by omega)
      repeat (first | (with_reducible exact Past.refl _ _) | (with_reducible refine Past.set ?_ (by omega) _))
    · refine OwnS.past (lo := w.heap.size + 2) (w := w5) hn5.2.1 ?_ (by omega) (by omega)
      repeat (first | (with_reducible exact Past.refl _ _) | (with_reducible refine Past.set ?_ (by omega) _))
    · refine OwnS.past (lo := w.heap.size + 2) (w := w5) hn5.2.2.1 ?_ (by omega) (by omega)
      repeat (first | (with_reducible exact Past.refl _ _) | (with_reducible refine Past.set ?_ (by omega) _))
    · refine OwnS.past (lo := w.heap.size + 2) (w := w5) hn5.2.2.2.1 ?_ (by omega) (by omega)
      repeat (first | (with_reducible exact Past.refl _ _) | (with_reducible refine Past.set ?_ (by omega) _))
    · refine OwnS.past (lo := w.heap.size + 2) (w := w5) hm5 ?_ (by omega) (by omega)
      repeat (first | (with_reducible exact Past.refl _ _) | (with_reducible refine Past.set ?_ (by omega) _))
    · repeat (first | (with_reducible assumption) | (with_reducible exact Below.refl _ _) | (with_reducible apply below_alloc) | (with_reducible apply below_drewN) | (with_reducible apply Below.drew) | (with_reducible refine below_set ?_ (by dsimp only; omega) _) | (with_reducible refine below_trans ?_ (by assumption)))
  · have hq : (code != 0) = true := by simpa using qc
    have hX := HX.out
    rw [if_pos hq] at hX
    subst hX
    clear HX
    have r0 := zB4.cell (j := 0) rfl
    have y0 := zB4.frozen 0
    have r1 := zB4.cell (j := 1) rfl
    have y1 := zB4.frozen 1
    have r2 := zB4.cell (j := 2) rfl
    have y2 := zB4.frozen 2
    have r3 := zB4.cell (j := 3) rfl
    have y3 := zB4.frozen 3
    have r4 := zB4.cell (j := 4) rfl
    have y4 := zB4.frozen 4
    have r5 := zB4.cell (j := 5) rfl
    have y5 := zB4.frozen 5
    have r6 := zB4.cell (j := 6) rfl
    have y6 := zB4.frozen 6
    have r7 := zB4.cell (j := 7) rfl
    have y7 := zB4.frozen 7
    have r8 := zB4.cell (j := 8) rfl
    have y8 := zB4.frozen 8
    have r9 := zB4.cell (j := 9) rfl
    have y9 := zB4.frozen 9
    have r10 := zB4.cell (j := 10) rfl
    have y10 := zB4.frozen 10
    have r11 := zB4.cell (j := 11) rfl
    have y11 := zB4.frozen 11
    clear zB4 zB3 zB
    go_wp2_with fail
    refine bodyPost_ret (v := .agg #[.int .i64 code, .int .i64 0, .int .i64 0, .int .i64 0, .bool false, .int .i64 0, .slice none 0 0, .int .i64 0, .slice none 0 0, .slice none 0 0, .slice none 0 0, .slice none 0 0]) (by simp [results, Tryz.results33, go_sem, r0, r1, r2, r3, r4, r5, r6, r7, r8, r9, r10, r11]) rfl (LaidRR.bad _ ?_)
    repeat (first | (with_reducible assumption) | (with_reducible exact Below.refl _ _) | (with_reducible apply below_alloc) | (with_reducible apply below_drewN) | (with_reducible apply Below.drew) | (with_reducible refine below_set ?_ (by dsimp only; omega) _) | (with_reducible refine below_trans ?_ (by assumption)))
end Go.Proofs.YtdjfehjddfbbjaaGreat

/- CrashReplica and TimeoutReplica of the program. -/
set_option linter.unusedVariables false
set_option linter.unusedSimpArgs false
namespace Go.Proofs.YtdjfehjddfbbjaaGreat
open Go Go.RowKit Mk
theorem first_zero {α : Type} {f : α → Int} : ∀ {xs : List α}, first f xs = 0 → ∀ x ∈ xs, f x = 0
  | [], _, x, hx => by cases hx
  | y :: ys, h, x, hx => by
    unfold first at h
    split at h
    · rename_i q; rw [h] at q; cases q
    · rename_i q
      rcases List.mem_cons.1 hx with rfl | hx
      · simpa using q
      · exact first_zero h x hx
theorem logF_len {xs : List SEntry} (h : logF xs = 0) : xs.length ≤ 40 := by
  unfold logF at h
  split at h
  · cases h
  · omega
theorem doerF_log {d : SDoer} (h : doerF d = 0) : d.Log.length ≤ 40 := by
  unfold doerF at h
  split at h
  · cases h
  · split at h
    · cases h
    · split at h
      · rename_i q; rw [h] at q; cases q
      · rename_i q; exact logF_len (by simpa using q)
theorem repF_nums {n : SReplica} (h : (repF n != 0) = false) : NumsRep n n.Id.toNat n.Size.toNat n.View.toNat := by
  have h0 : repF n = 0 := by simpa using h
  unfold repF at h0
  split at h0
  · cases h0
  rename_i q1
  split at h0
  · rename_i q; rw [h0] at q; cases q
  rename_i q2
  split at h0
  · cases h0
  split at h0
  · cases h0
  rename_i q4
  split at h0
  · cases h0
  simp only [Bool.not_eq_true', Bool.not_eq_false, Bool.and_eq_true] at q1
  obtain ⟨⟨⟨a1, a2⟩, a3⟩, a4⟩ := q1
  have a1 := wi_b a1
  have a2 := wi_b a2
  have a3 := wi_b a3
  simp only [Bool.or_eq_true, not_or, Bool.not_eq_true, bne_eq_false_iff_eq] at q4
  obtain ⟨⟨⟨_, b2⟩, b3⟩, b4⟩ := q4
  refine ⟨by omega, by omega, by omega, by omega, by omega, by omega, ?_, ?_, ?_, logF_len (by simpa using q2), fun d hd => doerF_log (first_zero h0 d hd)⟩
  · unfold oksN at b2; split at b2 <;> omega
  · unfold asksN at b3; split at b3 <;> simp_all <;> omega
  · unfold asksN at b4; split at b4 <;> simp_all <;> omega
theorem NumsRep.small {n : SReplica} {i s v : Nat} (h : NumsRep n i s v) : SmallRep n := by
  have h1 := h.le
  have h2 := h.asks
  have h3 := h.doers
  have h4 := h.log
  have h5 := h.oks
  refine ⟨by omega, by omega, by split at h2 <;> omega, by split at h3 <;> omega, fun d hd => by have := h.logs d hd; omega⟩
theorem crashR_small {n : SReplica} {i s v : Nat} (h : NumsRep n i s v) : SmallRep (crashR n i s) := by
  have hs := h.small
  have h1 := h.le
  have h5 := h.oks
  refine ⟨hs.1, by simp [crashR]; omega, ?_, ?_, ?_⟩
  · unfold crashR; dsimp only; split
    · exact hs.2.2.1
    · rw [aloneL_len]; omega
  · unfold crashR; dsimp only; split
    · exact hs.2.2.2.1
    · simp; omega
  · unfold crashR; dsimp only; split
    · exact hs.2.2.2.2
    · intro d hd; rw [List.eq_of_mem_replicate hd]; simp [zDoer]
theorem timeoutR_small {n : SReplica} {i s v : Nat} (h : NumsRep n i s v) : SmallRep (timeoutR n i s v) := by
  have hs := h.small
  have h1 := h.le
  unfold timeoutR
  split
  · refine ⟨hs.1, ?_, by simp [settleR], by simp [settleR], by simp [settleR]⟩
    simp only [settleR, oksZ]; split <;> simp <;> omega
  · refine ⟨hs.1, by simp [askR], by simp [askR, aloneL_len]; omega, by simp [askR]; omega, ?_⟩
    intro d hd; simp only [askR] at hd; rw [List.eq_of_mem_replicate hd]; simp [zDoer]
def crashX (n : SReplica) : SReplicaResult := if repF n != 0 then ⟨repF n, zReplica, []⟩ else ⟨0, crashR n n.Id.toNat n.Size.toNat, []⟩
def timeoutX (n : SReplica) : SReplicaResult :=
  if repF n != 0 then ⟨repF n, zReplica, []⟩ else if n.View == 200 then ⟨2, zReplica, []⟩
  else ⟨0, timeoutR n n.Id.toNat n.Size.toNat n.View.toNat, timeoutM n.Id.toNat n.Size.toNat n.View.toNat⟩
theorem crash_does {n : SReplica} {i s v : Nat} (h : NumsRep n i s v) {w0 : World} : Does 34 #[] n (crashR n i s) [] 0 w0 :=
  fun b A5 c5 A7 c7 A8 c8 A9 c9 f5 f7 f8 f9 B W _ hB hn hb hBw => crash_c b n i s v A5 c5 A7 c7 A8 c8 A9 c9 f5 f7 f8 f9 B W hB hn hb hBw h
theorem timeout_does {n : SReplica} {i s v : Nat} (h : NumsRep n i s v) (hv : v < 200) {w0 : World} : Does 35 #[] n (timeoutR n i s v) (timeoutM i s v) 0 w0 :=
  fun b A5 c5 A7 c7 A8 c8 A9 c9 f5 f7 f8 f9 B W _ hB hn hb hBw => timeout_c b n i s v A5 c5 A7 c7 A8 c8 A9 c9 f5 f7 f8 f9 B W hB hn hb hBw h hv
theorem timeout_full {n : SReplica} (hv : n.View = 200) {w0 : World} : Does 35 #[] n n [] 2 w0 :=
  fun b A5 c5 A7 c7 A8 c8 A9 c9 f5 f7 f8 f9 B W _ hB hn hb hBw => timeout_max b n A5 c5 A7 c7 A8 c8 A9 c9 f5 f7 f8 f9 B W hB hn hb hv
theorem crash_done (n : SReplica) (A5 : Option Addr) (c5 : Nat) (A7 : Option Addr) (c7 : Nat) (A8 : Option Addr) (c8 : Nat) (A9 : Option Addr) (c9 : Nat) (w : World) (h5 : RdS kEntry w A5 c5 n.Log) (h7 : RdS kInt w A7 c7 n.Oks) (h8 : RdS kBool w A8 c8 n.Asks) (h9 : RdS kDoer w A9 c9 n.Doers) :
    Calls Tryz.prog 33 #[.agg #[.int .i64 n.Id, .int .i64 n.Size, .int .i64 n.View, .bool n.Normal, .int .i64 n.Last, .slice A5 n.Log.length c5, .int .i64 n.Commit, .slice A7 n.Oks.length c7, .slice A8 n.Asks.length c8, .slice A9 n.Doers.length c9], .func (.func 34) #[] #[]] w fun r w' => LaidRR (crashX n) w r w' := by
  cases q : (repF n != 0) with
  | true => rw [show crashX n = ⟨repF n, zReplica, []⟩ by unfold crashX; rw [q, if_pos rfl]]; exact done_bad _ n _ _ _ _ _ _ _ _ w h5 h7 h8 h9 q
  | false =>
    have hf := repF_nums q
    rw [show crashX n = ⟨0, crashR n n.Id.toNat n.Size.toNat, []⟩ by unfold crashX; rw [q, if_neg (by simp)]]
    exact done_did _ #[] (Go.Proofs.enters_of Tryz.func34 (by kernel_rfl) rfl) n _ [] 0 _ _ _ _ _ _ _ _ w h5 h7 h8 h9 q hf.small (crashR_small hf) (crash_does hf)
theorem timeout_done (n : SReplica) (A5 : Option Addr) (c5 : Nat) (A7 : Option Addr) (c7 : Nat) (A8 : Option Addr) (c8 : Nat) (A9 : Option Addr) (c9 : Nat) (w : World) (h5 : RdS kEntry w A5 c5 n.Log) (h7 : RdS kInt w A7 c7 n.Oks) (h8 : RdS kBool w A8 c8 n.Asks) (h9 : RdS kDoer w A9 c9 n.Doers) :
    Calls Tryz.prog 33 #[.agg #[.int .i64 n.Id, .int .i64 n.Size, .int .i64 n.View, .bool n.Normal, .int .i64 n.Last, .slice A5 n.Log.length c5, .int .i64 n.Commit, .slice A7 n.Oks.length c7, .slice A8 n.Asks.length c8, .slice A9 n.Doers.length c9], .func (.func 35) #[] #[]] w fun r w' => LaidRR (timeoutX n) w r w' := by
  cases q : (repF n != 0) with
  | true => rw [show timeoutX n = ⟨repF n, zReplica, []⟩ by unfold timeoutX; rw [q, if_pos rfl]]; exact done_bad _ n _ _ _ _ _ _ _ _ w h5 h7 h8 h9 q
  | false =>
    have hf := repF_nums q
    have eg := Go.Proofs.enters_of Tryz.func35 (by kernel_rfl) rfl
    cases q2 : (n.View == 200) with
    | true =>
      rw [show timeoutX n = ⟨2, zReplica, []⟩ by unfold timeoutX; rw [q, q2]; rfl]
      exact done_did _ #[] eg n n [] 2 _ _ _ _ _ _ _ _ w h5 h7 h8 h9 q hf.small hf.small (timeout_full (by simpa using q2))
    | false =>
      have hv : n.View.toNat < 200 := by
        have h1 := hf.view; have h2 := hf.vle
        have h3 : n.View ≠ 200 := by simpa using q2
        omega
      rw [show timeoutX n = ⟨0, timeoutR n n.Id.toNat n.Size.toNat n.View.toNat, timeoutM n.Id.toNat n.Size.toNat n.View.toNat⟩ by unfold timeoutX; rw [q, q2]; rfl]
      exact done_did _ #[] eg n _ _ 0 _ _ _ _ _ _ _ _ w h5 h7 h8 h9 q hf.small (timeoutR_small hf) (timeout_does hf hv)
set_option maxRecDepth 100000 in
set_option maxHeartbeats 2000000 in
theorem iCrashReplica_c (n : SReplica) (A5 : Option Addr) (c5 : Nat) (A7 : Option Addr) (c7 : Nat) (A8 : Option Addr) (c8 : Nat) (A9 : Option Addr) (c9 : Nat) (w : World) (h5 : RdS kEntry w A5 c5 n.Log) (h7 : RdS kInt w A7 c7 n.Oks) (h8 : RdS kBool w A8 c8 n.Asks) (h9 : RdS kDoer w A9 c9 n.Doers) :
    Calls Tryz.prog 8 #[.agg #[.int .i64 n.Id, .int .i64 n.Size, .int .i64 n.View, .bool n.Normal, .int .i64 n.Last, .slice A5 n.Log.length c5, .int .i64 n.Commit, .slice A7 n.Oks.length c7, .slice A8 n.Asks.length c8, .slice A9 n.Doers.length c9]] w fun r w' => LaidRR (crashX n) w r w' := by
  have HD := Lib.hid (crash_done n)
  generalize crashX n = x at HD ⊢
  go_enter Tryz.func8, Tryz.ntmps8
  go_wp2_with fail
  refine (HD.out _ _ _ _ _ _ _ _ _ (h5.below (by repeat (first | (with_reducible assumption) | (with_reducible exact Below.refl _ _) | (with_reducible apply below_alloc) | (with_reducible apply below_drewN) | (with_reducible apply Below.drew) | (with_reducible refine below_set ?_ (by dsimp only; omega) _) | (with_reducible refine below_trans ?_ (by assumption))))) (h7.below (by repeat (first | (with_reducible assumption) | (with_reducible exact Below.refl _ _) | (with_reducible apply below_alloc) | (with_reducible apply below_drewN) | (with_reducible apply Below.drew) | (with_reducible refine below_set ?_ (by dsimp only; omega) _) | (with_reducible refine below_trans ?_ (by assumption))))) (h8.below (by repeat (first | (with_reducible assumption) | (with_reducible exact Below.refl _ _) | (with_reducible apply below_alloc) | (with_reducible apply below_drewN) | (with_reducible apply Below.drew) | (with_reducible refine below_set ?_ (by dsimp only; omega) _) | (with_reducible refine below_trans ?_ (by assumption))))) (h9.below (by repeat (first | (with_reducible assumption) | (with_reducible exact Below.refl _ _) | (with_reducible apply below_alloc) | (with_reducible apply below_drewN) | (with_reducible apply Below.drew) | (with_reducible refine below_set ?_ (by dsimp only; omega) _) | (with_reducible refine below_trans ?_ (by assumption)))))).mono ?_
  rintro r w1 ⟨A6, c6, A8', c8', A9', c9', A10, c10, A11, c11, f6, f8, f9, f10, f11, rfl, ⟨k6, k8, k9, k10, k11, nd⟩, hb1⟩
  have zB : Blk w1 (w.heap.size + 1) 33 [.int .i64 0, .int .i64 0, .int .i64 0, .int .i64 0, .bool false, .int .i64 0, .slice none 0 0, .int .i64 0, .slice none 0 0, .slice none 0 0, .slice none 0 0, .slice none 0 0] := by
    have := (blk_alloc (w.alloc (.cells #[.int .i64 n.Id, .int .i64 n.Size, .int .i64 n.View, .bool n.Normal, .int .i64 n.Last, .slice A5 n.Log.length c5, .int .i64 n.Commit, .slice A7 n.Oks.length c7, .slice A8 n.Asks.length c8, .slice A9 n.Doers.length c9] 29)) [.int .i64 0, .int .i64 0, .int .i64 0, .int .i64 0, .bool false, .int .i64 0, .slice none 0 0, .int .i64 0, .slice none 0 0, .slice none 0 0, .slice none 0 0, .slice none 0 0] 33).below hb1
    rwa [Deep.nblk_alloc] at this
  have lo1 : w.heap.size + 2 ≤ w1.heap.size := by have := hb1.size; simp only [Deep.nblk_alloc] at this; omega
  have r0 := zB.cell (j := 0) rfl
  have y0 := zB.frozen 0
  have r1 := zB.cell (j := 1) rfl
  have y1 := zB.frozen 1
  have r2 := zB.cell (j := 2) rfl
  have y2 := zB.frozen 2
  have r3 := zB.cell (j := 3) rfl
  have y3 := zB.frozen 3
  have r4 := zB.cell (j := 4) rfl
  have y4 := zB.frozen 4
  have r5 := zB.cell (j := 5) rfl
  have y5 := zB.frozen 5
  have r6 := zB.cell (j := 6) rfl
  have y6 := zB.frozen 6
  have r7 := zB.cell (j := 7) rfl
  have y7 := zB.frozen 7
  have r8 := zB.cell (j := 8) rfl
  have y8 := zB.frozen 8
  have r9 := zB.cell (j := 9) rfl
  have y9 := zB.frozen 9
  have r10 := zB.cell (j := 10) rfl
  have y10 := zB.frozen 10
  have r11 := zB.cell (j := 11) rfl
  have y11 := zB.frozen 11
  clear zB
  go_wp2_with fail
  refine bodyPost_ret (v := .agg #[.int .i64 x.Code, .int .i64 x.Replica.Id, .int .i64 x.Replica.Size, .int .i64 x.Replica.View, .bool x.Replica.Normal, .int .i64 x.Replica.Last, .slice A6 x.Replica.Log.length c6, .int .i64 x.Replica.Commit, .slice A8' x.Replica.Oks.length c8', .slice A9' x.Replica.Asks.length c9', .slice A10 x.Replica.Doers.length c10, .slice A11 x.Send.length c11]) (by simp [results, Tryz.results8, go_sem, r0, r1, r2, r3, r4, r5, r6, r7, r8, r9, r10, r11]) rfl ?_
  refine ⟨A6, c6, A8', c8', A9', c9', A10, c10, A11, c11, f6, f8, f9, f10, f11, rfl, ⟨?_, ?_, ?_, ?_, ?_, nd⟩, ?_⟩
  · refine OwnS.past (lo := w.heap.size + 2) (w := w1) k6 ?_ (by simp only [Deep.nblk_alloc]; omega) (by simp only [Deep.nblk_alloc]; omega)
    repeat (first | (with_reducible exact Past.refl _ _) | (with_reducible refine Past.set ?_ (by omega) _))
  · refine OwnS.past (lo := w.heap.size + 2) (w := w1) k8 ?_ (by simp only [Deep.nblk_alloc]; omega) (by simp only [Deep.nblk_alloc]; omega)
    repeat (first | (with_reducible exact Past.refl _ _) | (with_reducible refine Past.set ?_ (by omega) _))
  · refine OwnS.past (lo := w.heap.size + 2) (w := w1) k9 ?_ (by simp only [Deep.nblk_alloc]; omega) (by simp only [Deep.nblk_alloc]; omega)
    repeat (first | (with_reducible exact Past.refl _ _) | (with_reducible refine Past.set ?_ (by omega) _))
  · refine OwnS.past (lo := w.heap.size + 2) (w := w1) k10 ?_ (by simp only [Deep.nblk_alloc]; omega) (by simp only [Deep.nblk_alloc]; omega)
    repeat (first | (with_reducible exact Past.refl _ _) | (with_reducible refine Past.set ?_ (by omega) _))
  · refine OwnS.past (lo := w.heap.size + 2) (w := w1) k11 ?_ (by simp only [Deep.nblk_alloc]; omega) (by simp only [Deep.nblk_alloc]; omega)
    repeat (first | (with_reducible exact Past.refl _ _) | (with_reducible refine Past.set ?_ (by omega) _))
  · repeat (first | (with_reducible assumption) | (with_reducible exact Below.refl _ _) | (with_reducible apply below_alloc) | (with_reducible apply below_drewN) | (with_reducible apply Below.drew) | (with_reducible refine below_set ?_ (by dsimp only; omega) _) | (with_reducible refine below_trans ?_ (by assumption)))
set_option maxRecDepth 100000 in
set_option maxHeartbeats 2000000 in
theorem iTimeoutReplica_c (n : SReplica) (A5 : Option Addr) (c5 : Nat) (A7 : Option Addr) (c7 : Nat) (A8 : Option Addr) (c8 : Nat) (A9 : Option Addr) (c9 : Nat) (w : World) (h5 : RdS kEntry w A5 c5 n.Log) (h7 : RdS kInt w A7 c7 n.Oks) (h8 : RdS kBool w A8 c8 n.Asks) (h9 : RdS kDoer w A9 c9 n.Doers) :
    Calls Tryz.prog 9 #[.agg #[.int .i64 n.Id, .int .i64 n.Size, .int .i64 n.View, .bool n.Normal, .int .i64 n.Last, .slice A5 n.Log.length c5, .int .i64 n.Commit, .slice A7 n.Oks.length c7, .slice A8 n.Asks.length c8, .slice A9 n.Doers.length c9]] w fun r w' => LaidRR (timeoutX n) w r w' := by
  have HD := Lib.hid (timeout_done n)
  generalize timeoutX n = x at HD ⊢
  go_enter Tryz.func9, Tryz.ntmps9
  go_wp2_with fail
  refine (HD.out _ _ _ _ _ _ _ _ _ (h5.below (by repeat (first | (with_reducible assumption) | (with_reducible exact Below.refl _ _) | (with_reducible apply below_alloc) | (with_reducible apply below_drewN) | (with_reducible apply Below.drew) | (with_reducible refine below_set ?_ (by dsimp only; omega) _) | (with_reducible refine below_trans ?_ (by assumption))))) (h7.below (by repeat (first | (with_reducible assumption) | (with_reducible exact Below.refl _ _) | (with_reducible apply below_alloc) | (with_reducible apply below_drewN) | (with_reducible apply Below.drew) | (with_reducible refine below_set ?_ (by dsimp only; omega) _) | (with_reducible refine below_trans ?_ (by assumption))))) (h8.below (by repeat (first | (with_reducible assumption) | (with_reducible exact Below.refl _ _) | (with_reducible apply below_alloc) | (with_reducible apply below_drewN) | (with_reducible apply Below.drew) | (with_reducible refine below_set ?_ (by dsimp only; omega) _) | (with_reducible refine below_trans ?_ (by assumption))))) (h9.below (by repeat (first | (with_reducible assumption) | (with_reducible exact Below.refl _ _) | (with_reducible apply below_alloc) | (with_reducible apply below_drewN) | (with_reducible apply Below.drew) | (with_reducible refine below_set ?_ (by dsimp only; omega) _) | (with_reducible refine below_trans ?_ (by assumption)))))).mono ?_
  rintro r w1 ⟨A6, c6, A8', c8', A9', c9', A10, c10, A11, c11, f6, f8, f9, f10, f11, rfl, ⟨k6, k8, k9, k10, k11, nd⟩, hb1⟩
  have zB : Blk w1 (w.heap.size + 1) 33 [.int .i64 0, .int .i64 0, .int .i64 0, .int .i64 0, .bool false, .int .i64 0, .slice none 0 0, .int .i64 0, .slice none 0 0, .slice none 0 0, .slice none 0 0, .slice none 0 0] := by
    have := (blk_alloc (w.alloc (.cells #[.int .i64 n.Id, .int .i64 n.Size, .int .i64 n.View, .bool n.Normal, .int .i64 n.Last, .slice A5 n.Log.length c5, .int .i64 n.Commit, .slice A7 n.Oks.length c7, .slice A8 n.Asks.length c8, .slice A9 n.Doers.length c9] 29)) [.int .i64 0, .int .i64 0, .int .i64 0, .int .i64 0, .bool false, .int .i64 0, .slice none 0 0, .int .i64 0, .slice none 0 0, .slice none 0 0, .slice none 0 0, .slice none 0 0] 33).below hb1
    rwa [Deep.nblk_alloc] at this
  have lo1 : w.heap.size + 2 ≤ w1.heap.size := by have := hb1.size; simp only [Deep.nblk_alloc] at this; omega
  have r0 := zB.cell (j := 0) rfl
  have y0 := zB.frozen 0
  have r1 := zB.cell (j := 1) rfl
  have y1 := zB.frozen 1
  have r2 := zB.cell (j := 2) rfl
  have y2 := zB.frozen 2
  have r3 := zB.cell (j := 3) rfl
  have y3 := zB.frozen 3
  have r4 := zB.cell (j := 4) rfl
  have y4 := zB.frozen 4
  have r5 := zB.cell (j := 5) rfl
  have y5 := zB.frozen 5
  have r6 := zB.cell (j := 6) rfl
  have y6 := zB.frozen 6
  have r7 := zB.cell (j := 7) rfl
  have y7 := zB.frozen 7
  have r8 := zB.cell (j := 8) rfl
  have y8 := zB.frozen 8
  have r9 := zB.cell (j := 9) rfl
  have y9 := zB.frozen 9
  have r10 := zB.cell (j := 10) rfl
  have y10 := zB.frozen 10
  have r11 := zB.cell (j := 11) rfl
  have y11 := zB.frozen 11
  clear zB
  go_wp2_with fail
  refine bodyPost_ret (v := .agg #[.int .i64 x.Code, .int .i64 x.Replica.Id, .int .i64 x.Replica.Size, .int .i64 x.Replica.View, .bool x.Replica.Normal, .int .i64 x.Replica.Last, .slice A6 x.Replica.Log.length c6, .int .i64 x.Replica.Commit, .slice A8' x.Replica.Oks.length c8', .slice A9' x.Replica.Asks.length c9', .slice A10 x.Replica.Doers.length c10, .slice A11 x.Send.length c11]) (by simp [results, Tryz.results9, go_sem, r0, r1, r2, r3, r4, r5, r6, r7, r8, r9, r10, r11]) rfl ?_
  refine ⟨A6, c6, A8', c8', A9', c9', A10, c10, A11, c11, f6, f8, f9, f10, f11, rfl, ⟨?_, ?_, ?_, ?_, ?_, nd⟩, ?_⟩
  · refine OwnS.past (lo := w.heap.size + 2) (w := w1) k6 ?_ (by simp only [Deep.nblk_alloc]; omega) (by simp only [Deep.nblk_alloc]; omega)
    repeat (first | (with_reducible exact Past.refl _ _) | (with_reducible refine Past.set ?_ (by omega) _))
  · refine OwnS.past (lo := w.heap.size + 2) (w := w1) k8 ?_ (by simp only [Deep.nblk_alloc]; omega) (by simp only [Deep.nblk_alloc]; omega)
    repeat (first | (with_reducible exact Past.refl _ _) | (with_reducible refine Past.set ?_ (by omega) _))
  · refine OwnS.past (lo := w.heap.size + 2) (w := w1) k9 ?_ (by simp only [Deep.nblk_alloc]; omega) (by simp only [Deep.nblk_alloc]; omega)
    repeat (first | (with_reducible exact Past.refl _ _) | (with_reducible refine Past.set ?_ (by omega) _))
  · refine OwnS.past (lo := w.heap.size + 2) (w := w1) k10 ?_ (by simp only [Deep.nblk_alloc]; omega) (by simp only [Deep.nblk_alloc]; omega)
    repeat (first | (with_reducible exact Past.refl _ _) | (with_reducible refine Past.set ?_ (by omega) _))
  · refine OwnS.past (lo := w.heap.size + 2) (w := w1) k11 ?_ (by simp only [Deep.nblk_alloc]; omega) (by simp only [Deep.nblk_alloc]; omega)
    repeat (first | (with_reducible exact Past.refl _ _) | (with_reducible refine Past.set ?_ (by omega) _))
  · repeat (first | (with_reducible assumption) | (with_reducible exact Below.refl _ _) | (with_reducible apply below_alloc) | (with_reducible apply below_drewN) | (with_reducible apply Below.drew) | (with_reducible refine below_set ?_ (by dsimp only; omega) _) | (with_reducible refine below_trans ?_ (by assumption)))
end Go.Proofs.YtdjfehjddfbbjaaGreat
