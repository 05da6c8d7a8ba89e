/- What a node does on its own: the program's crash and timeout. -/
import Derived.Test.YtfblopmploohkaaGreatDoorZI
import Derived.Test.YtfblopmploohkaaGreatDoorZH
import Derived.Test.YtfblopmploohkaaGreatDoorZF
set_option linter.unusedVariables false
set_option linter.unusedSimpArgs false
namespace Go.Proofs.YtfblopmploohkaaGreatDoor
open Go Go.RowKit Mk
/-- What a method that does something leaves: the node in the box b is n' now, mails ms, a code. -/
def DidBox (b : Nat) (n' : SReplica) (ms : List SMail) (code : Int) (fp : List Nat) (B : Nat) (w : World) (r : Ending) (w' : World) : Prop :=
  ∃ A5 c5 A7 c7 A8 c8 A9 c9 f5 f7 f8 f9 As cs fs, r = .returned (.tuple #[.slice As ms.length cs, .int .i64 code]) ∧ Blk w' b 60 [.int .i64 n'.Id, .int .i64 n'.Size, .int .i64 n'.View, .bool n'.Normal, .int .i64 n'.Last, .slice A5 n'.Log.length c5, .int .i64 n'.Commit, .slice A7 n'.Oks.length c7, .slice A8 n'.Asks.length c8, .slice A9 n'.Doers.length c9] ∧ HasReplica B w' n' A5 c5 A7 c7 A8 c8 A9 c9 f5 f7 f8 f9 ∧
    OwnS kMail 75 B w' fs (.slice As ms.length cs) ms ∧ (fs ++ (f5 ++ (f7 ++ (f8 ++ f9)))).Nodup ∧ b ∉ fs ++ (f5 ++ (f7 ++ (f8 ++ f9))) ∧ Turn (b :: fp) w w' ∧ ∀ x ∈ fs ++ (f5 ++ (f7 ++ (f8 ++ f9))), x ∈ fp ∨ w.heap.size ≤ x
/-- What a faultless node is like, in numbers. -/
structure NumsRep (n : SReplica) (i s v : Nat) : Prop where
  id : n.Id = i
  size : n.Size = s
  view : n.View = v
  lt : i < s
  le : s ≤ 5
  vle : v ≤ 200
  oks : n.Oks.length ≤ 5
  asks : n.Asks.length = if n.Normal then 0 else s
  doers : n.Doers.length = if n.Normal then 0 else s
  log : n.Log.length ≤ 40
  logs : ∀ d ∈ n.Doers, d.Log.length ≤ 40
def crashR (n : SReplica) (i s : Nat) : SReplica :=
  { n with Commit := 0, Oks := List.replicate n.Oks.length 0, Asks := if n.Normal then n.Asks else aloneL s i, Doers := if n.Normal then n.Doers else List.replicate s zDoer }
theorem aloneL_len (s i : Nat) : (aloneL s i).length = s := by simp [aloneL]
theorem nodup4 {f5 : List Nat} {m a b c : Nat} (n5 : f5.Nodup) (h : ∀ x ∈ f5, x < m) (h1 : m ≤ a) (h2 : a < b) (h3 : a < c) (h4 : b ≠ c) : ([] ++ (f5 ++ ([a] ++ ([b] ++ [c])))).Nodup := by
  have : ∀ x, x ∈ f5 → x ≠ a ∧ x ≠ b ∧ x ≠ c := fun x hx => by have := h x hx; omega
  simp only [List.nil_append, List.nodup_append, List.nodup_cons, List.mem_cons, List.mem_append, List.not_mem_nil, or_false, not_false_eq_true, List.nodup_nil, and_true, true_and]
  grind
set_option maxRecDepth 100000 in
set_option maxHeartbeats 2000000 in
theorem crash_c (b : Nat) (n : SReplica) (i s v : Nat) (A5 : Option Addr) (c5 : Nat) (A7 : Option Addr) (c7 : Nat) (A8 : Option Addr) (c8 : Nat) (A9 : Option Addr) (c9 : Nat) (f5 f7 f8 f9 : List Nat) (B : Nat) (w : World) (hB : Blk w b 60 [.int .i64 n.Id, .int .i64 n.Size, .int .i64 n.View, .bool n.Normal, .int .i64 n.Last, .slice A5 n.Log.length c5, .int .i64 n.Commit, .slice A7 n.Oks.length c7, .slice A8 n.Asks.length c8, .slice A9 n.Doers.length c9]) (hn : HasReplica B w n A5 c5 A7 c7 A8 c8 A9 c9 f5 f7 f8 f9)
    (hb : b ∉ f5 ++ (f7 ++ (f8 ++ f9))) (hBw : B ≤ w.heap.size) (hf : NumsRep n i s v) :
    Calls Tryz.prog 106 #[.pointer (some ⟨b, 0, none⟩)] w fun r w' => DidBox b (crashR n i s) [] 0 (f5 ++ (f7 ++ (f8 ++ f9))) B w r w' := by
  obtain ⟨h5, h7, h8, h9, nd⟩ := hn
  have i5 := h5.in
  have i7 := h7.in
  have i8 := h8.in
  have i9 := h9.in
  obtain ⟨e1, e2, e3, l1, l2, l3, l4, l5, l6, _, _⟩ := hf
  rw [e1, e2] at hB
  simp only [List.mem_append, not_or] at hb
  obtain ⟨b5, b7, b8, b9⟩ := hb
  have hlt := hB.lt
  have nd5 : f5.Nodup := (List.nodup_append.1 nd).1
  cases hN : n.Normal with
  | true =>
    have hR := Lib.hid (show crashR n i s = { n with Commit := 0, Oks := List.replicate n.Oks.length 0 } by unfold crashR; rw [hN]; rfl)
    rw [hN] at hB
    have q6 := hB.cell (j := 6) rfl
    have z6 := hB.frozen 6
    have q7 := hB.cell (j := 7) rfl
    go_enter Tryz.func106, Tryz.ntmps106
    go_wp2_with (refine wpList_mk 54 2 (.int .i64 0) 8 _ _ rfl rfl n.Oks.length rfl rfl (by kernel_rfl) (by kernel_rfl) (by decide) (by omega) ?_; intro W0 G0 b0 s0; clear q6 z6 q7; have X0 := (hB.set0 6 (.int .i64 0)).below b0; simp only [List.set_cons_zero, List.set_cons_succ] at X0; have q7 := X0.cell (j := 7) rfl; have z7 := X0.frozen 7; have q3 := X0.cell (j := 3) rfl)
    have hs0 : (w.setCell ⟨b, 6, none⟩ (.int .i64 0)).heap.size = w.heap.size := by simp [World.setCell]
    rw [hs0] at G0 s0
    have X1 := X0.set0 7 (.slice (some ⟨w.heap.size, 0, none⟩) n.Oks.length n.Oks.length)
    simp only [List.set_cons_zero, List.set_cons_succ] at X1
    have t0 : Turn [b] w W0 := ((Turn.refl [b] w).set (p := ⟨b, 6, none⟩) (by simp) _).trans (Turn.of_below b0)
    have t1 := t0.set (p := ⟨b, 7, none⟩) (by simp) (.slice (some ⟨w.heap.size, 0, none⟩) n.Oks.length n.Oks.length)
    have G1 := G0.set_ne (a := ⟨b, 7, none⟩) (by simp; omega) (.slice (some ⟨w.heap.size, 0, none⟩) n.Oks.length n.Oks.length)
    have oO := ownS_blk (d := kInt) (e := 2) (B := B) (xs := List.replicate n.Oks.length 0) G1 (ownL_rep (d := kInt) (x := (0 : Int)) ⟨rfl, rfl⟩ _) hBw (by simp; unfold maxLen; omega)
    rw [List.length_replicate] at oO
    refine bodyPost_ret (v := .tuple #[.slice none 0 0, .int .i64 0]) (by simp [results, Tryz.results106, go_sem]) rfl ?_
    unfold DidBox
    rw [hR.out]
    refine ⟨A5, c5, some ⟨w.heap.size, 0, none⟩, n.Oks.length, A8, c8, A9, c9, f5, [w.heap.size], f8, f9, none, 0, [], rfl, ?_, ⟨OwnS.turn h5 t1 (by intro x hx hm; simp at hm; subst hm; exact b5 hx), ?_, OwnS.turn h8 t1 (by intro x hx hm; simp at hm; subst hm; exact b8 hx), OwnS.turn h9 t1 (by intro x hx hm; simp at hm; subst hm; exact b9 hx), ?_⟩, ownS_nil _ _ _, ?_, ?_, t1.mono (by simp), ?_⟩
    · rw [e1, e2]; simpa [hN] using X1
    · simpa using oO
    · have hx : ∀ x, x ∈ f5 ∨ x ∈ f8 ∨ x ∈ f9 → x ≠ w.heap.size := fun x hx => by
        have h1 := i5 x; have h2 := i8 x; have h3 := i9 x
        rcases hx with h | h | h
        · have := h1 h; omega
        · have := h2 h; omega
        · have := h3 h; omega
      simp only [List.nodup_append, List.mem_append, List.nodup_cons, List.mem_cons, List.not_mem_nil, or_false, not_false_eq_true, List.nodup_nil, and_true, true_and] at nd ⊢
      grind
    · have hx : ∀ x, x ∈ f5 ∨ x ∈ f8 ∨ x ∈ f9 → x ≠ w.heap.size := fun x hx => by
        have h1 := i5 x; have h2 := i8 x; have h3 := i9 x
        rcases hx with h | h | h
        · have := h1 h; omega
        · have := h2 h; omega
        · have := h3 h; omega
      simp only [List.nil_append, List.nodup_append, List.mem_append, List.nodup_cons, List.mem_cons, List.not_mem_nil, or_false, not_false_eq_true, List.nodup_nil, and_true, true_and] at nd ⊢
      grind
    · simp only [List.nil_append, List.mem_append, List.mem_cons, List.not_mem_nil, or_false, not_or]
      exact ⟨b5, by omega, b8, b9⟩
    · intro x hx
      simp only [List.nil_append, List.mem_append, List.mem_cons, List.not_mem_nil, or_false] at hx ⊢
      rcases hx with h | h | h | h
      · exact .inl (.inl h)
      · exact .inr (by omega)
      · exact .inl (.inr (.inr (.inl h)))
      · exact .inl (.inr (.inr (.inr h)))
  | false =>
    have hR := Lib.hid (show crashR n i s = { n with Commit := 0, Oks := List.replicate n.Oks.length 0, Asks := aloneL s i, Doers := List.replicate s zDoer } by unfold crashR; rw [hN]; rfl)
    rw [hN] at hB
    have q6 := hB.cell (j := 6) rfl
    have z6 := hB.frozen 6
    have q7 := hB.cell (j := 7) rfl
    go_enter Tryz.func106, Tryz.ntmps106
    go_wp2_with (refine wpList_mk 54 2 (.int .i64 0) 8 _ _ rfl rfl n.Oks.length rfl rfl (by kernel_rfl) (by kernel_rfl) (by decide) (by omega) ?_; intro W0 G0 b0 s0; clear q6 z6 q7; have X0 := (hB.set0 6 (.int .i64 0)).below b0; simp only [List.set_cons_zero, List.set_cons_succ] at X0; have q7 := X0.cell (j := 7) rfl; have z7 := X0.frozen 7; have q3 := X0.cell (j := 3) rfl)
    have hs0 : (w.setCell ⟨b, 6, none⟩ (.int .i64 0)).heap.size = w.heap.size := by simp [World.setCell]
    rw [hs0] at G0 s0
    have X1 := X0.set0 7 (.slice (some ⟨w.heap.size, 0, none⟩) n.Oks.length n.Oks.length)
    simp only [List.set_cons_zero, List.set_cons_succ] at X1
    have t0 : Turn [b] w W0 := ((Turn.refl [b] w).set (p := ⟨b, 6, none⟩) (by simp) _).trans (Turn.of_below b0)
    have t1 := t0.set (p := ⟨b, 7, none⟩) (by simp) (.slice (some ⟨w.heap.size, 0, none⟩) n.Oks.length n.Oks.length)
    have G1 := G0.set_ne (a := ⟨b, 7, none⟩) (by simp; omega) (.slice (some ⟨w.heap.size, 0, none⟩) n.Oks.length n.Oks.length)
    refine at_call (fun W => Blk W b 60 ([] ++ [.int .i64 i, .int .i64 s, .int .i64 n.View, .bool false, .int .i64 n.Last, .slice A5 n.Log.length c5, .int .i64 0, .slice (some ⟨w.heap.size, 0, none⟩) n.Oks.length n.Oks.length, .slice A8 n.Asks.length c8, .slice A9 n.Doers.length c9] ++ []) ∧ Blk W w.heap.size 2 (List.replicate n.Oks.length (Value.int IntKind.i64 0).cells.toList).flatten ∧ Turn [b] w W) ⟨X1, G1, t1⟩ ?_
    clear X0 X1 t0 t1 G0 G1 b0 s0 q7 z7 q3 W0
    rintro W1 ⟨Y, G, tY⟩
    have hg := G.lt
    refine (alone_c b 0 _ [] [] i s _ _ _ _ _ _ _ _ W1 Y rfl l1 l2).mono ?_
    rintro r w' ⟨g, h, rfl, x1, x2, x3, x4, x5⟩
    have tA := tY.trans x5
    go_wp2_with fail
    have gg := (x2.in g (by simp)).1
    have gh := (x3.in h (by simp)).1
    have G2 := G.keep (x5.block _ hg (by simp; omega))
    have oO := ownS_blk (d := kInt) (e := 2) (B := B) (xs := List.replicate n.Oks.length 0) G2 (ownL_rep (d := kInt) (x := (0 : Int)) ⟨rfl, rfl⟩ _) hBw (by simp; unfold maxLen; omega)
    rw [List.length_replicate] at oO
    have hsz := tY.size
    refine bodyPost_ret (v := .tuple #[.slice none 0 0, .int .i64 0]) (by simp [results, Tryz.results106, go_sem]) rfl ?_
    unfold DidBox
    rw [hR.out]
    refine ⟨A5, c5, some ⟨w.heap.size, 0, none⟩, n.Oks.length, some ⟨g, 0, none⟩, s, some ⟨h, 0, none⟩, s, f5, [w.heap.size], [g], [h], none, 0, [], rfl, ?_, ⟨OwnS.turn h5 tA (by intro x hx hm; simp at hm; subst hm; exact b5 hx), ?_, ?_, ?_, ?_⟩, ownS_nil _ _ _, nodup4 nd5 (fun x hx => (i5 x hx).2) (Nat.le_refl _) (by omega) (by omega) x4, ?_, tA.mono (by simp), ?_⟩
    · rw [e1, e2]; simpa [hN, aloneL_len] using x1
    · simpa using oO
    · simpa [aloneL_len] using x2.lift (B' := B) (fun b hb => by have := (x2.in b hb).1; omega)
    · simpa using x3.lift (B' := B) (fun b hb => by have := (x3.in b hb).1; omega)
    · exact nodup4 nd5 (fun x hx => (i5 x hx).2) (Nat.le_refl _) (by omega) (by omega) x4
    · simp only [List.nil_append, List.mem_append, List.mem_cons, List.not_mem_nil, or_false, not_or]
      exact ⟨b5, by omega, by omega, by omega⟩
    · intro x hx
      simp only [List.nil_append, List.mem_append, List.mem_cons, List.not_mem_nil, or_false] at hx ⊢
      rcases hx with h | h | h | h
      · exact .inl (.inl h)
      · exact .inr (by omega)
      · exact .inr (by omega)
      · exact .inr (by omega)
theorem isEnough_c (w : World) (p : Addr) (m s : Int) (h1 : w.cell? ⟨p.block, p.off + 1, none⟩ = some (.int .i64 s)) (hm : 0 ≤ m) (hm2 : m ≤ 1000) :
    Calls Tryz.prog 138 #[.pointer (some p), .int .i64 m] w fun e w' => e = .returned (.bool (decide (s < 2 * m))) ∧ w = w' := by
  go_enter Tryz.func138, Tryz.ntmps138
  go_wp2
  go_ret; exact ⟨rfl, rfl⟩
def askR (n : SReplica) (i s : Nat) (v : Int) : SReplica := { n with View := v, Normal := false, Oks := [], Asks := aloneL s i, Doers := List.replicate s zDoer }
def settleR (n : SReplica) (i s : Nat) (v : Int) : SReplica := { n with View := v, Normal := true, Last := v, Oks := oksZ i s v, Asks := [], Doers := [] }
def timeoutR (n : SReplica) (i s v : Nat) : SReplica := if s = 1 then settleR n i s ((v : Int) + 1) else askR n i s ((v : Int) + 1)
def timeoutM (i s v : Nat) : List SMail := if s = 1 then [] else changesL i s (v + 1)
set_option maxRecDepth 100000 in
set_option maxHeartbeats 2000000 in
theorem timeout_max (b : Nat) (n : SReplica) (A5 : Option Addr) (c5 : Nat) (A7 : Option Addr) (c7 : Nat) (A8 : Option Addr) (c8 : Nat) (A9 : Option Addr) (c9 : Nat) (f5 f7 f8 f9 : List Nat) (B : Nat) (w : World) (hB : Blk w b 60 [.int .i64 n.Id, .int .i64 n.Size, .int .i64 n.View, .bool n.Normal, .int .i64 n.Last, .slice A5 n.Log.length c5, .int .i64 n.Commit, .slice A7 n.Oks.length c7, .slice A8 n.Asks.length c8, .slice A9 n.Doers.length c9]) (hn : HasReplica B w n A5 c5 A7 c7 A8 c8 A9 c9 f5 f7 f8 f9)
    (hb : b ∉ f5 ++ (f7 ++ (f8 ++ f9))) (hv : n.View = 200) :
    Calls Tryz.prog 104 #[.pointer (some ⟨b, 0, none⟩)] w fun r w' => DidBox b n [] 2 (f5 ++ (f7 ++ (f8 ++ f9))) B w r w' := by
  have hB' := hB
  rw [hv] at hB
  have q2 := hB.cell (j := 2) rfl
  go_enter Tryz.func104, Tryz.ntmps104
  go_wp2_with fail
  refine bodyPost_ret (v := .tuple #[.slice none 0 0, .int .i64 2]) (by simp [results, Tryz.results104, go_sem]) rfl ?_
  exact ⟨A5, c5, A7, c7, A8, c8, A9, c9, f5, f7, f8, f9, none, 0, [], rfl, hB', hn, ownS_nil _ _ _, by simpa using hn.2.2.2.2, by simpa using hb, Turn.refl _ _, fun x hx => .inl (by simpa using hx)⟩
set_option maxRecDepth 100000 in
set_option maxHeartbeats 2000000 in
theorem timeout_c (b : Nat) (n : SReplica) (i s v : Nat) (A5 : Option Addr) (c5 : Nat) (A7 : Option Addr) (c7 : Nat) (A8 : Option Addr) (c8 : Nat) (A9 : Option Addr) (c9 : Nat) (f5 f7 f8 f9 : List Nat) (B : Nat) (w : World) (hB : Blk w b 60 [.int .i64 n.Id, .int .i64 n.Size, .int .i64 n.View, .bool n.Normal, .int .i64 n.Last, .slice A5 n.Log.length c5, .int .i64 n.Commit, .slice A7 n.Oks.length c7, .slice A8 n.Asks.length c8, .slice A9 n.Doers.length c9]) (hn : HasReplica B w n A5 c5 A7 c7 A8 c8 A9 c9 f5 f7 f8 f9)
    (hb : b ∉ f5 ++ (f7 ++ (f8 ++ f9))) (hBw : B ≤ w.heap.size) (hf : NumsRep n i s v) (hv : v < 200) :
    Calls Tryz.prog 104 #[.pointer (some ⟨b, 0, none⟩)] w fun r w' => DidBox b (timeoutR n i s v) (timeoutM i s v) 0 (f5 ++ (f7 ++ (f8 ++ f9))) B w r w' := by
  obtain ⟨h5, h7, h8, h9, nd⟩ := hn
  have i5 := h5.in
  obtain ⟨e1, e2, e3, l1, l2, l3, l4, l5, l6, _, _⟩ := hf
  have hB0 := hB
  rw [e1, e2, e3] at hB
  simp only [List.mem_append, not_or] at hb
  obtain ⟨b5, b7, b8, b9⟩ := hb
  have hlt := hB.lt
  have nd5 : f5.Nodup := (List.nodup_append.1 nd).1
  have q2 := hB.cell (j := 2) rfl
  have hv3 : ((v : Int) == 200) = false := beq_eq_false_iff_ne.2 (by omega)
  have hA := fun (W : World) (Y : Blk W b 60 [.int .i64 i, .int .i64 s, .int .i64 v, .bool n.Normal, .int .i64 n.Last, .slice A5 n.Log.length c5, .int .i64 n.Commit, .slice A7 n.Oks.length c7, .slice A8 n.Asks.length c8, .slice A9 n.Doers.length c9]) => ask_c b 0 _ [] [] i s ((v : Int) + 1) _ _ _ _ _ _ _ _ W Y rfl l1 l2
  go_enter Tryz.func104, Tryz.ntmps104
  go_wp2_with fail
  refine (hA w hB).mono ?_
  rintro r w1 ⟨g, h, rfl, x1, x2, x3, x4, x5⟩
  clear q2 hA
  have q1 := x1.mid (o := 0) rfl (j := 1) rfl
  have gg := (x2.in g (by simp)).1
  have gh := (x3.in h (by simp)).1
  have hE := isEnough_c w1 ⟨b, 0, none⟩ 1 s (by simpa using q1) (by omega) (by omega)
  by_cases hs : s = 1
  · have hd : decide ((s : Int) < 2 * 1) = true := by rw [hs]; rfl
    rw [hd] at hE
    clear hd q1
    go_wp2_with fail
    refine hE.mono ?_
    rintro r w2 ⟨rfl, rfl⟩
    go_wp2_with fail
    refine (settle_c b 0 _ [] [] i s ((v : Int) + 1) _ _ _ _ _ _ _ w1 x1 rfl l1 l2 (by omega) (by omega)).mono ?_
    rintro r w3 ⟨A7', c7', f7', rfl, y1, y2, y3, y4⟩
    go_wp2_with fail
    have tA := x5.trans y4
    have hz := x5.size
    have i7 := y2.in
    refine bodyPost_ret (v := .tuple #[.slice none 0 0, .int .i64 0]) (by simp [results, Tryz.results104, go_sem]) rfl ?_
    unfold DidBox
    rw [show timeoutR n i s v = settleR n i s ((v : Int) + 1) from if_pos hs, show timeoutM i s v = [] from if_pos hs]
    have nn : ([] ++ (f5 ++ (f7' ++ ([] ++ [])))).Nodup := by
      simp only [List.nil_append, List.append_nil]
      exact nodup_join (m := w.heap.size) nd5 y3 (fun b hb => (i5 b hb).2) (fun b hb => by have := (i7 b hb).1; omega)
    refine ⟨A5, c5, A7', c7', none, 0, none, 0, f5, f7', [], [], none, 0, [], rfl, ?_, ⟨OwnS.turn h5 tA (by intro x hx hm; simp at hm; subst hm; exact b5 hx), ?_, ownS_nil _ _ _, ownS_nil _ _ _, nn⟩, ownS_nil _ _ _, nn, ?_, tA.mono (by simp), ?_⟩
    · simp only [settleR]; rw [e1, e2]; simpa using y1
    · exact y2.lift (fun b hb => by have := (i7 b hb).1; omega)
    · simp only [List.nil_append, List.append_nil, List.mem_append, not_or]
      exact ⟨b5, fun hm => by have := (i7 b hm).1; omega⟩
    · intro x hx
      simp only [List.nil_append, List.append_nil, List.mem_append] at hx ⊢
      rcases hx with h | h
      · exact .inl (.inl h)
      · have := (i7 x h).1; exact .inr (by omega)
  · have hd : decide ((s : Int) < 2 * 1) = false := decide_eq_false (by omega)
    rw [hd] at hE
    clear hd q1
    go_wp2_with fail
    refine hE.mono ?_
    rintro r w2 ⟨rfl, rfl⟩
    have c0 := x1.mid (o := 0) rfl (j := 0) rfl
    have c1 := x1.mid (o := 0) rfl (j := 1) rfl
    have c2 := x1.mid (o := 0) rfl (j := 2) rfl
    have hC := changes_c w1 ⟨b, 0, none⟩ i s (v + 1) (by simpa using c0) (by simpa using c1) (by simpa using c2) l2
    clear c0 c1 c2
    go_wp2_with fail
    refine hC.mono ?_
    rintro r w3 ⟨As, cs, fs, rfl, y1, y2, y3⟩
    go_wp2_with fail
    have is := y1.in
    have tA := x5.trans (Turn.of_below y3)
    have hz := x5.size
    have x2' := OwnS.keep x2 (fun b hb => y3.block b (x2.in b hb).2)
    have x3' := OwnS.keep x3 (fun b hb => y3.block b (x3.in b hb).2)
    refine bodyPost_ret (v := .tuple #[.slice As (changesL i s (v + 1)).length cs, .int .i64 0]) (by simp [results, Tryz.results104, go_sem]) rfl ?_
    unfold DidBox
    rw [show timeoutR n i s v = askR n i s ((v : Int) + 1) from if_neg hs, show timeoutM i s v = changesL i s (v + 1) from if_neg hs]
    have lg := (x2.in g (by simp)).2
    have lh := (x3.in h (by simp)).2
    have nn : (f5 ++ ([] ++ ([g] ++ [h]))).Nodup := by
      have : ∀ x, x ∈ f5 → x ≠ g ∧ x ≠ h := fun x hx => by have := (i5 x hx).2; omega
      simp only [List.nil_append, List.nodup_append, List.nodup_cons, List.mem_cons, List.mem_append, List.not_mem_nil, or_false, not_false_eq_true, List.nodup_nil, and_true, true_and]
      grind
    refine ⟨A5, c5, none, 0, some ⟨g, 0, none⟩, s, some ⟨h, 0, none⟩, s, f5, [], [g], [h], As, cs, fs, rfl, ?_, ⟨OwnS.turn h5 tA (by intro x hx hm; simp at hm; subst hm; exact b5 hx), ownS_nil _ _ _, ?_, ?_, nn⟩, y1.lift (fun b hb => by have := (is b hb).1; omega), ?_, ?_, tA.mono (by simp), ?_⟩
    · simp only [askR]; rw [e1, e2]; simpa [aloneL_len] using x1.below y3
    · simpa [aloneL_len, askR] using x2'.lift (B' := B) (fun b hb => by have := (x2.in b hb).1; omega)
    · simpa [askR] using x3'.lift (B' := B) (fun b hb => by have := (x3.in b hb).1; omega)
    · refine List.nodup_append.2 ⟨y2, nn, fun a ha c hc hac => ?_⟩
      have h1 := (is a ha).1
      simp only [List.nil_append, List.mem_append, List.mem_cons, List.not_mem_nil, or_false] at hc
      rcases hc with hc | hc | hc
      · have := (i5 c hc).2; omega
      · omega
      · omega
    · simp only [List.nil_append, List.mem_append, List.mem_cons, List.not_mem_nil, or_false, not_or]
      exact ⟨fun hm => by have := (is b hm).1; omega, b5, by omega, by omega⟩
    · intro x hx
      simp only [List.nil_append, List.mem_append, List.mem_cons, List.not_mem_nil, or_false] at hx ⊢
      rcases hx with h | h | h | h
      · have := (is x h).1; exact .inr (by omega)
      · exact .inl (.inl h)
      · exact .inr (by omega)
      · exact .inr (by omega)
end Go.Proofs.YtfblopmploohkaaGreatDoor

/- What comes of something that a node does on its own: the program's done (written by gH8.py, own work). -/
set_option linter.unusedVariables false
set_option linter.unusedSimpArgs false
namespace Go.Proofs.YtfblopmploohkaaGreatDoor
open Go Go.RowKit Mk
/-- A call that lays a node's result. -/
def LaidRR (x : SReplicaResult) (w : World) (r : Ending) (w' : World) : Prop :=
  ∃ A6 c6 A8 c8 A9 c9 A10 c10 A11 c11 f6 f8 f9 f10 f11, r = .returned (.agg #[.int .i64 x.Code, .int .i64 x.Replica.Id, .int .i64 x.Replica.Size, .int .i64 x.Replica.View, .bool x.Replica.Normal, .int .i64 x.Replica.Last, .slice A6 x.Replica.Log.length c6, .int .i64 x.Replica.Commit, .slice A8 x.Replica.Oks.length c8, .slice A9 x.Replica.Asks.length c9, .slice A10 x.Replica.Doers.length c10, .slice A11 x.Send.length c11]) ∧ HasReplicaResult w.heap.size w' x A6 c6 A8 c8 A9 c9 A10 c10 A11 c11 f6 f8 f9 f10 f11 ∧ Below w.heap.size w w'
theorem LaidRR.bad {w w' : World} (k : Int) (hb : Below w.heap.size w w') : LaidRR ⟨k, zReplica, []⟩ w (.returned (.agg #[.int .i64 k, .int .i64 0, .int .i64 0, .int .i64 0, .bool false, .int .i64 0, .slice none 0 0, .int .i64 0, .slice none 0 0, .slice none 0 0, .slice none 0 0, .slice none 0 0])) w' :=
  ⟨none, 0, none, 0, none, 0, none, 0, none, 0, [], [], [], [], [], rfl, ⟨ownS_nil _ _ _, ownS_nil _ _ _, ownS_nil _ _ _, ownS_nil _ _ _, ownS_nil _ _ _, by simp⟩, hb⟩
theorem LaidRR.base {x : SReplicaResult} {w w1 w' : World} {r : Ending} (h : LaidRR x w1 r w') (hb : Below w.heap.size w w1) : LaidRR x w r w' := by
  obtain ⟨A6, c6, A8, c8, A9, c9, A10, c10, A11, c11, f6, f8, f9, f10, f11, rfl, ⟨h1, h2, h3, h4, h5, nd⟩, b⟩ := h
  have hs := hb.size
  exact ⟨A6, c6, A8, c8, A9, c9, A10, c10, A11, c11, f6, f8, f9, f10, f11, rfl, ⟨h1.lift (fun b hb => by have := (h1.in b hb).1; omega), h2.lift (fun b hb => by have := (h2.in b hb).1; omega), h3.lift (fun b hb => by have := (h3.in b hb).1; omega), h4.lift (fun b hb => by have := (h4.in b hb).1; omega), h5.lift (fun b hb => by have := (h5.in b hb).1; omega), nd⟩, below_trans hb b⟩
/-- What is asked of a method that is handed to done. -/
def Does (g : Nat) (cb : Array Value) (n n' : SReplica) (ms : List SMail) (code : Int) (w0 : World) : Prop :=
  ∀ (b : Nat) (A5 : Option Addr) (c5 : Nat) (A7 : Option Addr) (c7 : Nat) (A8 : Option Addr) (c8 : Nat) (A9 : Option Addr) (c9 : Nat) (f5 f7 f8 f9 : List Nat) (B : Nat) (W : World), Below w0.heap.size w0 W → Blk W b 60 [.int .i64 n.Id, .int .i64 n.Size, .int .i64 n.View, .bool n.Normal, .int .i64 n.Last, .slice A5 n.Log.length c5, .int .i64 n.Commit, .slice A7 n.Oks.length c7, .slice A8 n.Asks.length c8, .slice A9 n.Doers.length c9] → HasReplica B W n A5 c5 A7 c7 A8 c8 A9 c9 f5 f7 f8 f9 → b ∉ f5 ++ (f7 ++ (f8 ++ f9)) → B ≤ W.heap.size →
    Calls Tryz.prog g (#[.pointer (some ⟨b, 0, none⟩)] ++ cb) W fun r W' => DidBox b n' ms code (f5 ++ (f7 ++ (f8 ++ f9))) B W r W'
theorem Does.mono {g : Nat} {cb : Array Value} {n n' : SReplica} {ms : List SMail} {code : Int} {w0 w1 : World} (h : Does g cb n n' ms code w0) (hb : Below w0.heap.size w0 w1) : Does g cb n n' ms code w1 :=
  fun b A5 c5 A7 c7 A8 c8 A9 c9 f5 f7 f8 f9 B W hW => h b A5 c5 A7 c7 A8 c8 A9 c9 f5 f7 f8 f9 B W (below_trans hb hW)
end Go.Proofs.YtfblopmploohkaaGreatDoor

/- CrashReplica and TimeoutReplica of the program. -/
set_option linter.unusedVariables false
set_option linter.unusedSimpArgs false
namespace Go.Proofs.YtfblopmploohkaaGreatDoor
open Go Go.RowKit Mk
theorem first_zero {α : Type} {f : α → Int} : ∀ {xs : List α}, first f xs = 0 → ∀ x ∈ xs, f x = 0
  | [], _, x, hx => by cases hx
  | y :: ys, h, x, hx => by
    unfold first at h
    split at h
    · rename_i q; rw [h] at q; cases q
    · rename_i q
      rcases List.mem_cons.1 hx with rfl | hx
      · simpa using q
      · exact first_zero h x hx
theorem logF_len {xs : List SEntry} (h : logF xs = 0) : xs.length ≤ 40 := by
  unfold logF at h
  split at h
  · cases h
  · omega
theorem doerF_log {d : SDoer} (h : doerF d = 0) : d.Log.length ≤ 40 := by
  unfold doerF at h
  split at h
  · cases h
  · split at h
    · cases h
    · split at h
      · rename_i q; rw [h] at q; cases q
      · rename_i q; exact logF_len (by simpa using q)
theorem repF_nums {n : SReplica} (h : (repF n != 0) = false) : NumsRep n n.Id.toNat n.Size.toNat n.View.toNat := by
  have h0 : repF n = 0 := by simpa using h
  unfold repF at h0
  split at h0
  · cases h0
  rename_i q1
  split at h0
  · rename_i q; rw [h0] at q; cases q
  rename_i q2
  split at h0
  · cases h0
  split at h0
  · cases h0
  rename_i q4
  split at h0
  · cases h0
  simp only [Bool.not_eq_true', Bool.not_eq_false, Bool.and_eq_true] at q1
  obtain ⟨⟨⟨a1, a2⟩, a3⟩, a4⟩ := q1
  have a1 := wi_b a1
  have a2 := wi_b a2
  have a3 := wi_b a3
  simp only [Bool.or_eq_true, not_or, Bool.not_eq_true, bne_eq_false_iff_eq] at q4
  obtain ⟨⟨⟨_, b2⟩, b3⟩, b4⟩ := q4
  refine ⟨by omega, by omega, by omega, by omega, by omega, by omega, ?_, ?_, ?_, logF_len (by simpa using q2), fun d hd => doerF_log (first_zero h0 d hd)⟩
  · unfold oksN at b2; split at b2 <;> omega
  · unfold asksN at b3; split at b3 <;> simp_all <;> omega
  · unfold asksN at b4; split at b4 <;> simp_all <;> omega
theorem NumsRep.small {n : SReplica} {i s v : Nat} (h : NumsRep n i s v) : SmallRep n := by
  have h1 := h.le
  have h2 := h.asks
  have h3 := h.doers
  have h4 := h.log
  have h5 := h.oks
  refine ⟨by omega, by omega, by split at h2 <;> omega, by split at h3 <;> omega, fun d hd => by have := h.logs d hd; omega⟩
theorem crashR_small {n : SReplica} {i s v : Nat} (h : NumsRep n i s v) : SmallRep (crashR n i s) := by
  have hs := h.small
  have h1 := h.le
  have h5 := h.oks
  refine ⟨hs.1, by simp [crashR]; omega, ?_, ?_, ?_⟩
  · unfold crashR; dsimp only; split
    · exact hs.2.2.1
    · rw [aloneL_len]; omega
  · unfold crashR; dsimp only; split
    · exact hs.2.2.2.1
    · simp; omega
  · unfold crashR; dsimp only; split
    · exact hs.2.2.2.2
    · intro d hd; rw [List.eq_of_mem_replicate hd]; simp [zDoer]
theorem timeoutR_small {n : SReplica} {i s v : Nat} (h : NumsRep n i s v) : SmallRep (timeoutR n i s v) := by
  have hs := h.small
  have h1 := h.le
  unfold timeoutR
  split
  · refine ⟨hs.1, ?_, by simp [settleR], by simp [settleR], by simp [settleR]⟩
    simp only [settleR, oksZ]; split <;> simp <;> omega
  · refine ⟨hs.1, by simp [askR], by simp [askR, aloneL_len]; omega, by simp [askR]; omega, ?_⟩
    intro d hd; simp only [askR] at hd; rw [List.eq_of_mem_replicate hd]; simp [zDoer]
def crashX (n : SReplica) : SReplicaResult := if repF n != 0 then ⟨repF n, zReplica, []⟩ else ⟨0, crashR n n.Id.toNat n.Size.toNat, []⟩
def timeoutX (n : SReplica) : SReplicaResult :=
  if repF n != 0 then ⟨repF n, zReplica, []⟩ else if n.View == 200 then ⟨2, zReplica, []⟩
  else ⟨0, timeoutR n n.Id.toNat n.Size.toNat n.View.toNat, timeoutM n.Id.toNat n.Size.toNat n.View.toNat⟩
theorem crash_does {n : SReplica} {i s v : Nat} (h : NumsRep n i s v) {w0 : World} : Does 106 #[] n (crashR n i s) [] 0 w0 :=
  fun b A5 c5 A7 c7 A8 c8 A9 c9 f5 f7 f8 f9 B W _ hB hn hb hBw => crash_c b n i s v A5 c5 A7 c7 A8 c8 A9 c9 f5 f7 f8 f9 B W hB hn hb hBw h
theorem timeout_does {n : SReplica} {i s v : Nat} (h : NumsRep n i s v) (hv : v < 200) {w0 : World} : Does 104 #[] n (timeoutR n i s v) (timeoutM i s v) 0 w0 :=
  fun b A5 c5 A7 c7 A8 c8 A9 c9 f5 f7 f8 f9 B W _ hB hn hb hBw => timeout_c b n i s v A5 c5 A7 c7 A8 c8 A9 c9 f5 f7 f8 f9 B W hB hn hb hBw h hv
theorem timeout_full {n : SReplica} (hv : n.View = 200) {w0 : World} : Does 104 #[] n n [] 2 w0 :=
  fun b A5 c5 A7 c7 A8 c8 A9 c9 f5 f7 f8 f9 B W _ hB hn hb hBw => timeout_max b n A5 c5 A7 c7 A8 c8 A9 c9 f5 f7 f8 f9 B W hB hn hb hv
end Go.Proofs.YtfblopmploohkaaGreatDoor
