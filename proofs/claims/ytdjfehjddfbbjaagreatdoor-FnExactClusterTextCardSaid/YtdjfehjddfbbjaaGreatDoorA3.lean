/- Faults of a node: what the program's functions come to. -/
import Derived.Test.YtdjfehjddfbbjaaGreatDoorA2
set_option linter.unusedVariables false
set_option linter.unusedSimpArgs false
namespace Go.Proofs.YtdjfehjddfbbjaaGreatDoor
open Go Go.RowKit Mk
def doerF (d : SDoer) : Int :=
  if !d.Known && (d.Last != 0 || decide (0 < d.Log.length) || d.Commit != 0) then 1 else if !wi d.Last 0 200 then 3
  else if logF d.Log != 0 then logF d.Log else if !wi d.Commit 0 d.Log.length then 3 else 0
def isPrim (n : SReplica) : Bool := n.View % n.Size == n.Id
def leadsB (n : SReplica) : Bool := n.Normal && isPrim n
def asksN (n : SReplica) : Int := if n.Normal then 0 else n.Size
def oksN (n : SReplica) : Int := if leadsB n then n.Size else 0
def repF (n : SReplica) : Int :=
  if !(wi n.Size 1 5 && wi n.Id 0 (n.Size - 1) && wi n.View 0 200 && wi n.Last 0 n.View) then 3
  else if logF n.Log != 0 then logF n.Log
  else if !wi n.Commit 0 n.Log.length then 3
  else if n.Normal && n.Last != n.View || (n.Oks.length : Int) != oksN n || (n.Asks.length : Int) != asksN n || (n.Doers.length : Int) != asksN n then 1
  else if n.Oks.any (fun k => !wi k 0 n.Log.length) then 3
  else first doerF n.Doers
def sizesB (n : SReplica) : Bool := n.Normal && n.Last != n.View || (n.Oks.length : Int) != oksN n || (n.Asks.length : Int) != asksN n || (n.Doers.length : Int) != asksN n
theorem repF_tail (n : SReplica) (h1 : wi n.Size 1 5 = true) (h2 : wi n.Id 0 (n.Size - 1) = true) (h3 : wi n.View 0 200 = true) (h4 : (!wi n.Last 0 n.View) = false) (h5 : (logF n.Log != 0) = false) (h6 : (!wi n.Commit 0 n.Log.length) = false) :
    repF n = if sizesB n then 1 else if n.Oks.any (fun k => !wi k 0 n.Log.length) then 3 else first doerF n.Doers := by
  have h4' : wi n.Last 0 n.View = true := by simpa using h4
  unfold repF sizesB
  rw [h1, h2, h3, h4', h5, h6]
  rfl
theorem wi_b {n l h : Int} (e : wi n l h = true) : l ≤ n ∧ n ≤ h := by simpa [wi] using e
theorem wi_t {n l h : Int} (a : l ≤ n) (b : n ≤ h) : wi n l h = true := by simp [wi, a, b]

theorem many_c (xs : List SEntry) (A : Option Addr) (c : Nat) (w : World) : Calls Tryz.prog 39 #[.slice A xs.length c] w fun e w' => e = .returned (.int .i64 xs.length) ∧ w = w' := by
  go_enter Tryz.func39, Tryz.ntmps39
  go_wp2
  go_ret; exact ⟨rfl, rfl⟩
theorem primary_c (v s : Int) (w : World) (h0 : 0 ≤ v) (h1 : 1 ≤ s) (h2 : v ≤ 200) : Calls Tryz.prog 86 #[.int .i64 v, .int .i64 s] w fun e w' => e = .returned (.int .i64 (v % s)) ∧ w = w' := by
  have hs : (s == 0) = false := beq_eq_false_iff_ne.2 (by omega)
  go_enter Tryz.func86, Tryz.ntmps86
  go_wp2
  go_ret; exact ⟨rfl, rfl⟩
theorem isPrimary_c (n : SReplica) (p : Addr) (w : World) (h : At kReplica w p n) (h0 : 0 ≤ n.View) (h1 : 1 ≤ n.Size) (h2 : n.View ≤ 200) :
    Calls Tryz.prog 74 #[.pointer (some p)] w fun e w' => e = .returned (.bool (isPrim n)) ∧ Below w.heap.size w w' := by
  obtain ⟨A5, c5, A7, c7, A8, c8, A9, c9, f0, f1, f2, f3, f4, f5, f6, f7, f8, f9, h⟩ := atReplica h
  clear f3 f4 f5 f6 f7 f8 f9 h
  go_enter Tryz.func74, Tryz.ntmps74
  go_wp2_with fail
  go_quiet ((go_at_call 86; exact Calls.quiet_of_same ((primary_c _ _ _ h0 h1 h2).mono fun e w' ⟨he, hw⟩ => ⟨he, hw.symm⟩)))
  go_wp2
  go_ret; exact ⟨rfl, below_drewN (Below.refl _ _) _⟩
theorem leads_c (n : SReplica) (p : Addr) (w : World) (h : At kReplica w p n) (h0 : 0 ≤ n.View) (h1 : 1 ≤ n.Size) (h2 : n.View ≤ 200) :
    Calls Tryz.prog 58 #[.pointer (some p)] w fun e w' => e = .returned (.bool (leadsB n)) ∧ Below w.heap.size w w' := by
  obtain ⟨A5, c5, A7, c7, A8, c8, A9, c9, f0, f1, f2, f3, f4, f5, f6, f7, f8, f9, hh⟩ := atReplica h
  clear f0 f1 f2 f4 f5 f6 f7 f8 f9 hh
  go_enter Tryz.func58, Tryz.ntmps58
  go_wp2_with (go_at_call 74; refine (isPrimary_c n p _ h h0 h1 h2).mono ?_; rintro e w' ⟨rfl, hb⟩)
  all_goals (go_ret; exact ⟨by simp_all [leadsB], by repeat (first | assumption | exact Below.refl _ _ | (refine below_trans ?_ (by assumption)) | apply below_alloc | apply below_drewN | apply Below.drew)⟩)
theorem logF_nil : logF [] = 0 := rfl
set_option maxHeartbeats 1000000 in
theorem doerFault_c (d : SDoer) (A : Option Addr) (c : Nat) (w : World) (h : RdS kEntry w A c d.Log) :
    Calls Tryz.prog 61 #[.agg #[.bool d.Known, .int .i64 d.Last, .slice A d.Log.length c, .int .i64 d.Commit]] w fun e w' => e = .returned (.int .i64 (doerF d)) ∧ Below w.heap.size w w' := by
  have hlen : d.Log.length ≤ 9223372036854775807 := by have h1 := h.1; have h2 := h.2.1; unfold maxLen at h2; omega
  obtain ⟨K, L, lg, C⟩ := d
  dsimp only at h hlen ⊢
  have main : ∀ (K : Bool), (K = true ∨ L = 0 ∧ lg = [] ∧ C = 0) → Calls Tryz.prog 61 #[.agg #[.bool K, .int .i64 L, .slice A lg.length c, .int .i64 C]] w fun e w' => e = .returned (.int .i64 (doerF ⟨K, L, lg, C⟩)) ∧ Below w.heap.size w w' := by
    intro K hK
    have hd : doerF ⟨K, L, lg, C⟩ = if !wi L 0 200 then 3 else if logF lg != 0 then logF lg else if !wi C 0 lg.length then 3 else 0 := by
      rcases hK with rfl | ⟨rfl, rfl, rfl⟩
      · simp [doerF]
      · cases K <;> rfl
    rw [hd]; clear hd
    generalize hr : (if !wi L 0 200 then 3 else if logF lg != 0 then logF lg else if !wi C 0 lg.length then 3 else 0 : Int) = r
    have HR := Lib.hid hr; clear hr
    have go : ∀ (cells : Array Value), cells = #[.bool K, .int .i64 L, .slice A lg.length c, .int .i64 C] → True := fun _ _ => trivial
    clear go
    rcases hK with rfl | ⟨rfl, rfl, rfl⟩
    · go_enter Tryz.func61, Tryz.ntmps61
      go_wp2_with (first | (go_at_call 33; refine (within_c _ _ _ _).mono ?_; rintro e w' ⟨rfl, rfl⟩) | (go_at_call 36; refine (logFault_c _ _ _ _ ?_).mono ?_; exact h.below (by repeat (first | assumption | exact Below.refl _ _ | (refine below_trans ?_ (by assumption)) | apply below_alloc | apply below_drewN | apply Below.drew)); rintro e w1 ⟨rfl, hb1⟩; have gs := seenDoer w ⟨true, L, lg, C⟩ 100 A c _ hb1))
      · go_ret; refine ⟨ret_int ?_, by repeat (first | assumption | exact Below.refl _ _ | (refine below_trans ?_ (by assumption)) | apply below_alloc | apply below_drewN | apply Below.drew)⟩; rw [← HR.out]; simp_all
      · go_ret; refine ⟨ret_int ?_, by repeat (first | assumption | exact Below.refl _ _ | (refine below_trans ?_ (by assumption)) | apply below_alloc | apply below_drewN | apply Below.drew)⟩; rw [← HR.out]; simp_all
      go_quiet ((first | (go_at_call 39; exact Calls.quiet_of_same ((many_c _ _ _ _).mono fun e w' ⟨he, hw⟩ => ⟨he, hw.symm⟩)) | (go_at_call 33; exact Calls.quiet_of_same ((within_c _ _ _ _).mono fun e w' ⟨he, hw⟩ => ⟨he, hw.symm⟩))))
      go_wp2
      all_goals (go_ret; refine ⟨ret_int ?_, by repeat (first | assumption | exact Below.refl _ _ | (refine below_trans ?_ (by assumption)) | apply below_alloc | apply below_drewN | apply Below.drew)⟩; rw [← HR.out]; simp_all)
    · have HR2 : Hid (r = 0) := HR.out.symm
      clear HR
      have hl0 := logF_nil
      cases K
      all_goals
        go_enter Tryz.func61, Tryz.ntmps61
        go_wp2_with (first | (go_at_call 33; refine (within_c 0 0 200 _).mono ?_; rintro e w' ⟨rfl, rfl⟩) | (go_at_call 36; refine (logFault_c [] A c _ ?_).mono ?_; exact h.below (by repeat (first | assumption | exact Below.refl _ _ | (refine below_trans ?_ (by assumption)) | apply below_alloc | apply below_drewN | apply Below.drew)); rintro e w1 ⟨rfl, hb1⟩; rw [hl0]; first | have gs := seenDoer w ⟨true, 0, [], 0⟩ 100 A c _ hb1 | have gs := seenDoer w ⟨false, 0, [], 0⟩ 100 A c _ hb1))
        go_quiet ((first | (go_at_call 39; exact Calls.quiet_of_same ((many_c [] _ _ _).mono fun e w' ⟨he, hw⟩ => ⟨he, hw.symm⟩)) | (go_at_call 33; exact Calls.quiet_of_same ((within_c _ _ _ _).mono fun e w' ⟨he, hw⟩ => ⟨he, hw.symm⟩))))
        go_wp2
        go_ret; refine ⟨ret_int ?_, by repeat (first | assumption | exact Below.refl _ _ | (refine below_trans ?_ (by assumption)) | apply below_alloc | apply below_drewN | apply Below.drew)⟩; rw [HR2.out]
  cases K with
  | true => exact main true (.inl rfl)
  | false =>
    by_cases hz : L = 0 ∧ lg = [] ∧ C = 0
    · exact main false (.inr hz)
    · clear main
      have hd : doerF ⟨false, L, lg, C⟩ = 1 := by
        by_cases h1 : L = 0 <;> by_cases h2 : lg = [] <;> by_cases h3 : C = 0 <;> simp_all [doerF, List.length_pos_iff]
      rw [hd]; clear hd
      by_cases h1 : L = 0
      · subst h1
        by_cases h2 : lg = []
        · subst h2
          have h3 : (C != 0) = true := by simpa using hz
          clear hz
          go_enter Tryz.func61, Tryz.ntmps61
          go_wp2
          go_ret; exact ⟨rfl, by repeat (first | assumption | exact Below.refl _ _ | (refine below_trans ?_ (by assumption)) | apply below_alloc | apply below_drewN | apply Below.drew)⟩
        · have h4 : 0 < lg.length := List.length_pos_iff.2 h2
          have h3 : decide (0 < lg.length) = true := by simpa using h4
          clear hz h2
          go_enter Tryz.func61, Tryz.ntmps61
          go_wp2
          go_ret; exact ⟨rfl, by repeat (first | assumption | exact Below.refl _ _ | (refine below_trans ?_ (by assumption)) | apply below_alloc | apply below_drewN | apply Below.drew)⟩
      · have h3 : (L != 0) = true := by simpa using h1
        clear hz h1
        go_enter Tryz.func61, Tryz.ntmps61
        go_wp2
        go_ret; exact ⟨rfl, by repeat (first | assumption | exact Below.refl _ _ | (refine below_trans ?_ (by assumption)) | apply below_alloc | apply below_drewN | apply Below.drew)⟩

theorem repFault1_c (x : Int) (n : SReplica) (p : Addr) (w : World) (h : At kReplica w p n) :
    Calls Tryz.prog 60 #[.int .i64 x, .pointer (some p)] w fun e w' => e = .returned (.bool (!wi x 0 n.Log.length)) ∧ Below w.heap.size w w' := by
  obtain ⟨A5, c5, A7, c7, A8, c8, A9, c9, f0, f1, f2, f3, f4, f5, f6, f7, f8, f9, hh⟩ := atReplica h
  clear f0 f1 f2 f3 f4 f6 f7 f8 f9 hh
  go_enter Tryz.func60, Tryz.ntmps60
  go_wp2_with (first | (go_at_call 39; refine (many_c _ _ _ _).mono ?_; rintro e w' ⟨rfl, rfl⟩) | (go_at_call 33; refine (within_c _ _ _ _).mono ?_; rintro e w' ⟨rfl, rfl⟩))
  go_ret; exact ⟨rfl, by repeat (first | assumption | exact Below.refl _ _ | (refine below_trans ?_ (by assumption)) | apply below_alloc | apply below_drewN | apply Below.drew)⟩
set_option maxRecDepth 100000 in
set_option maxHeartbeats 1000000 in
theorem replicaFault_c (n : SReplica) (A5 : Option Addr) (c5 : Nat) (A7 : Option Addr) (c7 : Nat) (A8 : Option Addr) (c8 : Nat) (A9 : Option Addr) (c9 : Nat) (w : World)
    (h5 : RdS kEntry w A5 c5 n.Log) (h7 : RdS kInt w A7 c7 n.Oks) (h8 : RdS kBool w A8 c8 n.Asks) (h9 : RdS kDoer w A9 c9 n.Doers) :
    Calls Tryz.prog 34 #[.agg #[.int .i64 n.Id, .int .i64 n.Size, .int .i64 n.View, .bool n.Normal, .int .i64 n.Last, .slice A5 n.Log.length c5, .int .i64 n.Commit, .slice A7 n.Oks.length c7, .slice A8 n.Asks.length c8, .slice A9 n.Doers.length c9]] w
      fun e w' => e = .returned (.int .i64 (repF n)) ∧ Below w.heap.size w w' := by
  cases h1 : wi n.Size 1 5 with
  | false =>
    have hr : repF n = 3 := by simp [repF, h1]
    rw [hr]; clear hr
    go_enter Tryz.func34, Tryz.ntmps34
    go_wp2_with (first | (go_at_call 33; refine (within_c _ _ _ _).mono ?_; rintro e w' ⟨rfl, rfl⟩))
    go_ret; exact ⟨rfl, by repeat (first | assumption | exact Below.refl _ _ | (refine below_trans ?_ (by assumption)) | apply below_alloc | apply below_drewN | apply Below.drew)⟩
  | true =>
    obtain ⟨b1, b2⟩ := wi_b h1
    have hdl : n.Doers.length ≤ 9223372036854775807 := by have h1 := h9.1; have h2 := h9.2.1; unfold maxLen at h2; omega
    go_enter Tryz.func34, Tryz.ntmps34
    go_wp2_with (first | (go_at_call 33; refine (within_c _ _ _ _).mono ?_; rintro e w' ⟨rfl, rfl⟩) | (go_at_call 36; refine (logFault_c _ _ _ _ ?_).mono ?_; exact h5.below (by repeat (first | assumption | exact Below.refl _ _ | (refine below_trans ?_ (by assumption)) | apply below_alloc | apply below_drewN | apply Below.drew)); rintro e w1 ⟨rfl, hb1⟩; have g1 := seenReplica w n 71 A5 c5 A7 c7 A8 c8 A9 c9 _ hb1))
    iterate 3 (go_ret; refine ⟨ret_int ?_, by repeat (first | assumption | exact Below.refl _ _ | (refine below_trans ?_ (by assumption)) | apply below_alloc | apply below_drewN | apply Below.drew)⟩; (try simp only [Bool.not_eq_true'] at *); simp_all [repF])
    · go_ret; refine ⟨ret_int ?_, by repeat (first | assumption | exact Below.refl _ _ | (refine below_trans ?_ (by assumption)) | apply below_alloc | apply below_drewN | apply Below.drew)⟩; simp_all [repF]
    go_quiet ((first | (go_at_call 39; exact Calls.quiet_of_same ((many_c _ _ _ _).mono fun e w' ⟨he, hw⟩ => ⟨he, hw.symm⟩)) | (go_at_call 33; exact Calls.quiet_of_same ((within_c _ _ _ _).mono fun e w' ⟨he, hw⟩ => ⟨he, hw.symm⟩))))
    go_wp2
    · go_ret; refine ⟨ret_int ?_, by repeat (first | assumption | exact Below.refl _ _ | (refine below_trans ?_ (by assumption)) | apply below_alloc | apply below_drewN | apply Below.drew)⟩; simp_all [repF]
    go_quiet (fail)
    have hv := wi_b (show wi n.View 0 200 = true by assumption)
    have i1 : InReplica w n 71 A5 c5 A7 c7 A8 c8 A9 c9 w1 := hb1
    go_upto_if 52 with fail
    go_cut [0, 5] (fun _ s5 W => s5 = .int .i64 (asksN n) ∧ InReplica w n 71 A5 c5 A7 c7 A8 c8 A9 c9 W)
    case first =>
      cases hN : n.Normal
      · have ha : asksN n = n.Size := by simp [asksN, hN]
        have hA := Lib.hid ha; clear ha
        go_wp2_with fail; go_meet; exact ⟨by rw [hA.out], i1.step (by repeat (first | assumption | exact Below.refl _ _ | (refine below_trans ?_ (by assumption)) | apply below_alloc | apply below_drewN | apply Below.drew))⟩
      · have ha : asksN n = 0 := by simp [asksN, hN]
        have hA := Lib.hid ha; clear ha
        go_wp2_with fail; go_meet; exact ⟨by rw [hA.out], i1.step (by repeat (first | assumption | exact Below.refl _ _ | (refine below_trans ?_ (by assumption)) | apply below_alloc | apply below_drewN | apply Below.drew))⟩
    case rest =>
      obtain ⟨rfl, i2⟩ := hcut
      have g2 := i2.seen
      clear i1 g1 hb1
      go_upto_if 53 with fail
      refine (leads_c n _ _ (i2.at h5 h7 h8 h9) hv.1 b1 hv.2).mono ?_
      rintro e w2 ⟨rfl, hb2⟩
      have i3 := i2.step hb2
      have g3 := i3.seen
      clear i2 g2 hb2
      go_upto_if 53 with fail
      go_cut [4] (fun s4 W => s4 = .int .i64 (oksN n) ∧ InReplica w n 71 A5 c5 A7 c7 A8 c8 A9 c9 W)
      case first =>
        cases hN : leadsB n
        · have ha : oksN n = 0 := by simp [oksN, hN]
          have hA := Lib.hid ha; clear ha
          go_wp2_with fail; go_meet; exact ⟨by rw [hA.out], i3⟩
        · have ha : oksN n = n.Size := by simp [oksN, hN]
          have hA := Lib.hid ha; clear ha
          go_wp2_with fail; go_meet; exact ⟨by rw [hA.out], i3⟩
      case rest =>
        obtain ⟨rfl, i4⟩ := hcut
        have g4 := i4.seen
        clear i3 g3
        go_upto_block 0 with fail
        go_cut [0] (fun _ W => Hid (repF n = first doerF n.Doers) ∧ InReplica w n 71 A5 c5 A7 c7 A8 c8 A9 c9 W)
        case first =>
          have hF := repF_tail n h1 (by assumption) (by assumption) (by assumption) (by assumption) (by assumption)
          cases q1 : sizesB n
          · rw [q1, if_neg (by simp)] at hF
            have H2 := Lib.hid hF
            unfold sizesB at q1
            simp only [Bool.or_eq_false_iff, Bool.and_eq_false_iff] at q1
            obtain ⟨⟨⟨qa, qb⟩, qc⟩, qd⟩ := q1
            clear hF
            rcases qa with qa | qa
            all_goals
              go_wp2_with fail
            all_goals
              refine (containsFunc_int 60 #[.pointer (some ⟨w.heap.size, 0, none⟩)] (Go.Proofs.enters_of Tryz.func60 (by kernel_rfl) rfl) (fun k => !wi k 0 n.Log.length) n.Oks A7 c7 _ ?_ ?_).mono ?_
              exact h7.below i4.below
              · intro k hk W cs hW hr
                obtain rfl := hr
                exact repFault1_c _ n _ _ ((i4.step hW).at h5 h7 h8 h9)
              rintro e w3 ⟨rfl, hb3⟩
              have i5 := i4.step hb3
              clear g4
              generalize hy : (n.Oks.any (fun k => !wi k 0 n.Log.length)) = y at H2
              cases y
              · go_wp2_with fail
                go_meet
                exact ⟨by rw [H2.out]; rfl, i5⟩
              · go_wp2_with fail
                go_ret
                exact ⟨ret_int (by rw [H2.out]; rfl), i5.below⟩
          · rw [q1, if_pos rfl] at hF
            have H2 := Lib.hid hF
            unfold sizesB at q1
            clear hF
            simp only [Bool.or_eq_true, Bool.and_eq_true] at q1
            rcases q1 with ((⟨qa, qb⟩ | qb) | qb) | qb
            all_goals
              go_wp2_with fail
              all_goals (go_ret; exact ⟨ret_int (by rw [H2.out]), i4.below⟩)
        case rest =>
          obtain ⟨HR, i5⟩ := hcut
          clear i4 g4
          have g5 := i5.seen
          have hB3 := i5.below
          go_wp2_with fail
          clear g5 i5 h5 h7 h8
          go_loopw [95] (fun i W => ∃ k : Nat, k ≤ n.Doers.length ∧ i = .int .i64 k ∧ first doerF (n.Doers.drop k) = first doerF n.Doers ∧ Below w.heap.size w W) (fun i _ => n.Doers.length - (intOf i).toNat)
          case atStart => exact ⟨0, Nat.zero_le _, rfl, rfl, hB3⟩
          case round =>
            obtain ⟨k, hk, rfl, hf, hb⟩ := hrel
            by_cases hlt : k < n.Doers.length
            · have hs := first_drop doerF n.Doers k hlt
              have HS := Lib.hid (hs.symm.trans hf); clear hs hf
              obtain ⟨a, cs, rfl, hl, hr⟩ := (h9.below hb).at (List.getElem?_eq_getElem hlt)
              obtain ⟨D2, e2, rfl, hd2⟩ := kDoer_open hr
              have f0 := hl.c0
              have f1 := hl.cS 0 rfl
              have f2 := hl.cS 1 rfl
              have f3 := hl.cS 2 rfl
              simp only [show kDoer.sz = 4 from rfl, Nat.zero_add, Nat.reduceAdd] at f0 f1 f2 f3
              clear hl hr h9
              go_wp2_with (go_at_call 61; refine (doerFault_c n.Doers[k] _ _ _ ?_).mono ?_; exact hd2.below (by repeat (first | assumption | exact Below.refl _ _ | (refine below_trans ?_ (by assumption)) | apply below_alloc | apply below_drewN | apply Below.drew)); rintro e w' ⟨rfl, hb5⟩)
              · go_ret
                exact ⟨ret_int (by rw [HR.out, ← HS.out, if_pos (by assumption)]), by repeat (first | assumption | exact Below.refl _ _ | (refine below_trans ?_ (by assumption)) | apply below_alloc | apply below_drewN | apply Below.drew)⟩
              · exact ⟨⟨k + 1, hlt, by go_num, by rw [← HS.out, if_neg (by simp_all)], by repeat (first | assumption | exact Below.refl _ _ | (refine below_trans ?_ (by assumption)) | apply below_alloc | apply below_drewN | apply Below.drew)⟩, by simp [intOf]; omega⟩
            · have HF := Lib.hid hf; clear hf
              go_wp2
              go_ret
              exact ⟨ret_int (by rw [HR.out, ← HF.out, List.drop_of_length_le (by omega)]; rfl), by repeat (first | assumption | exact Below.refl _ _ | (refine below_trans ?_ (by assumption)) | apply below_alloc | apply below_drewN | apply Below.drew)⟩
end Go.Proofs.YtdjfehjddfbbjaaGreatDoor
