/- Faults of a cluster: what the program's ClusterFault comes to (written by gA7.py, own work). -/
import Derived.Test.YtdjfehjddfbbjaaGreatDoorA6
set_option linter.unusedVariables false
set_option linter.unusedSimpArgs false
namespace Go.Proofs.YtdjfehjddfbbjaaGreatDoor
open Go Go.RowKit Mk
theorem cell_alloc {w : World} {a : Addr} {v : Value} (h : w.cell? a = some v) (o : Obj) : (w.alloc o).cell? a = some v := (World.cell?_alloc_lt w o a (World.block_lt_of_cell? w a h)).trans h
def firstI {α : Type} (f : Nat → α → Int) : Nat → List α → Int
  | _, [] => 0
  | i, x :: xs => if f i x != 0 then f i x else firstI f (i + 1) xs
theorem firstI_drop {α : Type} (f : Nat → α → Int) (xs : List α) (k : Nat) (h : k < xs.length) : firstI f k (xs.drop k) = if f k xs[k] != 0 then f k xs[k] else firstI f (k + 1) (xs.drop (k + 1)) := by
  rw [List.drop_eq_getElem_cons h]; rfl
def nodeF (size : Int) (i : Nat) (n : SReplica) : Int := if repF n != 0 then repF n else if n.Id != (i : Int) || n.Size != size then 1 else 0
def mailInF (c : SCluster) (m : SMail) : Int := if !wi m.To 0 (c.Nodes.length - 1) then 3 else mailF (c.Nodes.getD m.To.toNat zReplica) m
def clusF (c : SCluster) : Int :=
  if !wi c.Nodes.length 1 5 || decide (120 < c.Mails.length) then 2
  else if firstI (nodeF c.Nodes.length) 0 c.Nodes != 0 then firstI (nodeF c.Nodes.length) 0 c.Nodes
  else if first (mailInF c) c.Mails != 0 then first (mailInF c) c.Mails
  else logF c.Sealed
set_option maxRecDepth 100000 in
set_option maxHeartbeats 2000000 in
theorem clusterFault_c (c : SCluster) (A0 : Option Addr) (c0 : Nat) (A1 : Option Addr) (c1 : Nat) (A2 : Option Addr) (c2 : Nat) (w : World)
    (h0 : RdS kReplica w A0 c0 c.Nodes) (h1 : RdS kMail w A1 c1 c.Mails) (h2 : RdS kEntry w A2 c2 c.Sealed) :
    Calls Tryz.prog 18 #[.agg #[.slice A0 c.Nodes.length c0, .slice A1 c.Mails.length c1, .slice A2 c.Sealed.length c2]] w fun e w' => e = .returned (.int .i64 (clusF c)) ∧ Below w.heap.size w w' := by
  have hl0 := h0.le63
  have hl1 := h1.le63
  cases hs : wi c.Nodes.length 1 5 with
  | false =>
    have hr : clusF c = 2 := by simp [clusF, hs]
    have HR := Lib.hid hr; clear hr
    go_enter Tryz.func18, Tryz.ntmps18
    go_wp2_with (first | (go_at_call 33; refine (within_c _ _ _ _).mono ?_; rintro e w' ⟨rfl, rfl⟩))
    go_ret; exact ⟨ret_int HR.out.symm, by repeat (first | assumption | exact Below.refl _ _ | (refine below_trans ?_ (by assumption)) | apply below_alloc | apply below_drewN | apply Below.drew)⟩
  | true =>
    obtain ⟨b1, b2⟩ := wi_b hs
    by_cases hm : 120 < c.Mails.length
    · have hr : clusF c = 2 := by simp [clusF, hm]
      have HR := Lib.hid hr; clear hr
      go_enter Tryz.func18, Tryz.ntmps18
      go_wp2_with (first | (go_at_call 33; refine (within_c _ _ _ _).mono ?_; rintro e w' ⟨rfl, rfl⟩))
      go_ret; exact ⟨ret_int HR.out.symm, by repeat (first | assumption | exact Below.refl _ _ | (refine below_trans ?_ (by assumption)) | apply below_alloc | apply below_drewN | apply Below.drew)⟩
    · have hr : clusF c = if firstI (nodeF c.Nodes.length) 0 c.Nodes != 0 then firstI (nodeF c.Nodes.length) 0 c.Nodes else if first (mailInF c) c.Mails != 0 then first (mailInF c) c.Mails else logF c.Sealed := by simp [clusF, hm, hs]
      have HR := Lib.hid hr; clear hr
      go_enter Tryz.func18, Tryz.ntmps18
      go_wp2_with (first | (go_at_call 33; refine (within_c _ _ _ _).mono ?_; rintro e w' ⟨rfl, rfl⟩))
      clear hm
      go_loopw [25] (fun i W => ∃ k : Nat, k ≤ c.Nodes.length ∧ i = .int .i64 k ∧ firstI (nodeF c.Nodes.length) k (c.Nodes.drop k) = firstI (nodeF c.Nodes.length) 0 c.Nodes ∧ InCluster w c 35 A0 c0 A1 c1 A2 c2 W) (fun i _ => c.Nodes.length - (intOf i).toNat)
      case atStart => exact ⟨0, Nat.zero_le _, rfl, rfl, by unfold InCluster; repeat (first | assumption | exact Below.refl _ _ | (refine below_trans ?_ (by assumption)) | apply below_alloc | apply below_drewN | apply Below.drew)⟩
      case round =>
        obtain ⟨k, hk, rfl, hf, hi⟩ := hrel
        have hb := hi.below
        by_cases hlt : k < c.Nodes.length
        · have hsd := firstI_drop (nodeF c.Nodes.length) c.Nodes k hlt
          have HS := Lib.hid (hsd.symm.trans hf); clear hsd hf
          generalize hn : c.Nodes[k] = n at *
          have HN := Lib.hid hn; clear hn
          obtain ⟨a, cs, rfl, hl, hr⟩ := (h0.below hb).at (List.getElem?_eq_getElem hlt)
          rw [HN.out] at hr
          obtain ⟨A5, c5, A7, c7, A8, c8, A9, c9, rfl, hs5, hs7, hs8, hs9⟩ := kReplica_open hr
          have f0 := hl.c0
          have f1 := hl.cS 0 rfl
          have f2 := hl.cS 1 rfl
          have f3 := hl.cS 2 rfl
          have f4 := hl.cS 3 rfl
          have f5 := hl.cS 4 rfl
          have f6 := hl.cS 5 rfl
          have f7 := hl.cS 6 rfl
          have f8 := hl.cS 7 rfl
          have f9 := hl.cS 8 rfl
          simp only [show kReplica.sz = 10 from rfl, Nat.zero_add, Nat.reduceAdd] at f0 f1 f2 f3 f4 f5 f6 f7 f8 f9
          clear hl hr
          go_wp2_with (go_at_call 34; refine (replicaFault_c n _ _ _ _ _ _ _ _ _ ?_ ?_ ?_ ?_).mono ?_; exact hs5.below (by repeat (first | assumption | exact Below.refl _ _ | (refine below_trans ?_ (by assumption)) | apply below_alloc | apply below_drewN | apply Below.drew)); exact hs7.below (by repeat (first | assumption | exact Below.refl _ _ | (refine below_trans ?_ (by assumption)) | apply below_alloc | apply below_drewN | apply Below.drew)); exact hs8.below (by repeat (first | assumption | exact Below.refl _ _ | (refine below_trans ?_ (by assumption)) | apply below_alloc | apply below_drewN | apply Below.drew)); exact hs9.below (by repeat (first | assumption | exact Below.refl _ _ | (refine below_trans ?_ (by assumption)) | apply below_alloc | apply below_drewN | apply Below.drew)); rintro e w5 ⟨rfl, hb5⟩; have g5 := seenReplica wr n 71 _ _ _ _ _ _ _ _ w5 hb5)
          all_goals (have hh := HS.out; have hrr := HR.out)
          · have q := (show (repF n != 0) = true by assumption)
            go_ret; refine ⟨ret_int ?_, by repeat (first | assumption | exact Below.refl _ _ | (refine below_trans ?_ (by assumption)) | apply below_alloc | apply below_drewN | apply Below.drew)⟩
            have e : nodeF c.Nodes.length k n = repF n := by unfold nodeF; rw [if_pos q]
            rw [e, if_pos q] at hh
            rw [hrr, ← hh, if_pos q]
          · go_ret; refine ⟨ret_int ?_, by repeat (first | assumption | exact Below.refl _ _ | (refine below_trans ?_ (by assumption)) | apply below_alloc | apply below_drewN | apply Below.drew)⟩
            have e : nodeF c.Nodes.length k n = 1 := by clear g5; unfold nodeF; rw [if_neg (by simp_all), if_pos (by simp_all)]
            rw [e] at hh
            rw [hrr, ← hh]; rfl
          · go_ret; refine ⟨ret_int ?_, by repeat (first | assumption | exact Below.refl _ _ | (refine below_trans ?_ (by assumption)) | apply below_alloc | apply below_drewN | apply Below.drew)⟩
            have e : nodeF c.Nodes.length k n = 1 := by clear g5; unfold nodeF; rw [if_neg (by simp_all), if_pos (by simp_all)]
            rw [e] at hh
            rw [hrr, ← hh]; rfl
          · refine ⟨⟨k + 1, hlt, by go_num, ?_, hi.step (by repeat (first | assumption | exact Below.refl _ _ | (refine below_trans ?_ (by assumption)) | apply below_alloc | apply below_drewN | apply Below.drew))⟩, by simp [intOf]; omega⟩
            have e : nodeF c.Nodes.length k n = 0 := by clear g5; unfold nodeF; rw [if_neg (by simp_all), if_neg (by simp_all)]
            rw [e] at hh
            exact hh
        · have HF := Lib.hid hf; clear hf
          have g0 := hi.seen
          go_wp2_with fail
          have hz : firstI (nodeF c.Nodes.length) 0 c.Nodes = 0 := by rw [← HF.out, List.drop_of_length_le (by omega)]; rfl
          have hr2 : clusF c = if first (mailInF c) c.Mails != 0 then first (mailInF c) c.Mails else logF c.Sealed := by rw [HR.out, hz]; rfl
          have HR2 := Lib.hid hr2
          clear hr2 hz HR HF g0
          go_loopw [49] (fun i W => ∃ k : Nat, k ≤ c.Mails.length ∧ i = .int .i64 k ∧ first (mailInF c) (c.Mails.drop k) = first (mailInF c) c.Mails ∧ InCluster w c 35 A0 c0 A1 c1 A2 c2 W) (fun i _ => c.Mails.length - (intOf i).toNat)
          case atStart => exact ⟨0, Nat.zero_le _, rfl, rfl, hi⟩
          case round =>
            clear hi hb hlt hk
            obtain ⟨k, hk, rfl, hf, hi⟩ := hrel
            have hb := hi.below
            have gc := hi.seen
            by_cases hlt : k < c.Mails.length
            · have hsd := first_drop (mailInF c) c.Mails k hlt
              have HS := Lib.hid (hsd.symm.trans hf); clear hsd hf
              generalize hn : c.Mails[k] = m at *
              have HN := Lib.hid hn; clear hn
              obtain ⟨a, cs, rfl, hl, hr⟩ := (h1.below hb).at (List.getElem?_eq_getElem hlt)
              rw [HN.out] at hr
              obtain ⟨A13, c13, rfl, hs13⟩ := kMail_open hr
              have f0 := hl.c0
              have f1 := hl.cS 0 rfl
              have f2 := hl.cS 1 rfl
              have f3 := hl.cS 2 rfl
              have f4 := hl.cS 3 rfl
              have f5 := hl.cS 4 rfl
              have f6 := hl.cS 5 rfl
              have f7 := hl.cS 6 rfl
              have f8 := hl.cS 7 rfl
              have f9 := hl.cS 8 rfl
              have f10 := hl.cS 9 rfl
              have f11 := hl.cS 10 rfl
              have f12 := hl.cS 11 rfl
              have f13 := hl.cS 12 rfl
              have f14 := hl.cS 13 rfl
              simp only [show kMail.sz = 15 from rfl, Nat.zero_add, Nat.reduceAdd] at f0 f1 f2 f3 f4 f5 f6 f7 f8 f9 f10 f11 f12 f13 f14
              clear hl hr
              cases ht : wi m.To 0 (c.Nodes.length - 1) with
              | false =>
                go_wp2_with (first | (go_at_call 33; refine (within_c _ _ _ _).mono ?_; rintro e w' ⟨rfl, rfl⟩))
                have hh := HS.out
                have e : mailInF c m = 3 := by simp [mailInF, ht]
                go_ret; refine ⟨ret_int ?_, by repeat (first | assumption | exact Below.refl _ _ | (refine below_trans ?_ (by assumption)) | apply below_alloc | apply below_drewN | apply Below.drew)⟩
                rw [HR2.out, ← hh, e]; rfl
              | true =>
                obtain ⟨t1, t2⟩ := wi_b ht
                have t3 : m.To.toNat < c.Nodes.length := by omega
                have t4 : m.To < (c.Nodes.length : Int) := by omega
                go_wp2_with (first | (go_at_call 33; refine (within_c _ _ _ _).mono ?_; rintro e w' ⟨rfl, rfl⟩))
                have bw : Below wr.heap.size wr (wr.alloc (.cells #[.int .i64 m.Kind, .int .i64 m.From, .int .i64 m.To, .int .i64 m.View, .int .i64 m.At, .bool m.Has, .int .i64 m.Entry.Client, .int .i64 m.Entry.Seq, .int .i64 m.Entry.Op.Kind, .int .i64 m.Entry.Op.Vol, .int .i64 m.Entry.Op.At, .int .i64 m.Entry.Op.Value, .int .i64 m.Last, .slice A13 m.Log.length c13, .int .i64 m.Commit] 77)) := below_alloc (Below.refl _ _) _
                have mb : At kMail (wr.alloc (.cells #[.int .i64 m.Kind, .int .i64 m.From, .int .i64 m.To, .int .i64 m.View, .int .i64 m.At, .bool m.Has, .int .i64 m.Entry.Client, .int .i64 m.Entry.Seq, .int .i64 m.Entry.Op.Kind, .int .i64 m.Entry.Op.Vol, .int .i64 m.Entry.Op.At, .int .i64 m.Entry.Op.Value, .int .i64 m.Last, .slice A13 m.Log.length c13, .int .i64 m.Commit] 77)) ⟨wr.heap.size, 0, none⟩ m := boxMail wr m 77 hs13
                clear f0 f1 f2 f3 f4 f5 f6 f7 f8 f9 f10 f11 f12 f13 f14 gc
                generalize wr.alloc (.cells #[.int .i64 m.Kind, .int .i64 m.From, .int .i64 m.To, .int .i64 m.View, .int .i64 m.At, .bool m.Has, .int .i64 m.Entry.Client, .int .i64 m.Entry.Seq, .int .i64 m.Entry.Op.Kind, .int .i64 m.Entry.Op.Vol, .int .i64 m.Entry.Op.At, .int .i64 m.Entry.Op.Value, .int .i64 m.Last, .slice A13 m.Log.length c13, .int .i64 m.Commit] 77) = W at bw mb ⊢
                have iW := hi.step bw
                have gW := iW.seen
                obtain ⟨a', cs', rfl, hl', hr'⟩ := (h0.below iW.below).at (List.getElem?_eq_getElem t3)
                generalize hn' : c.Nodes[m.To.toNat] = n at *
                have HN' := Lib.hid hn'; clear hn'
                obtain ⟨R5, r5, R7, r7, R8, r8, R9, r9, rfl, ks5, ks7, ks8, ks9⟩ := kReplica_open hr'
                have q0 := hl'.c0
                have q1 := hl'.cS 0 rfl
                have q2 := hl'.cS 1 rfl
                have q3 := hl'.cS 2 rfl
                have q4 := hl'.cS 3 rfl
                have q5 := hl'.cS 4 rfl
                have q6 := hl'.cS 5 rfl
                have q7 := hl'.cS 6 rfl
                have q8 := hl'.cS 7 rfl
                have q9 := hl'.cS 8 rfl
                simp only [show kReplica.sz = 10 from rfl, Nat.zero_add, Nat.reduceAdd] at q0 q1 q2 q3 q4 q5 q6 q7 q8 q9
                clear hl' hr'
                obtain ⟨MB, md, mm⟩ := atMail mb
                simp only [Nat.zero_add] at mm
                obtain ⟨m0, m1, m2, m3, m4, m5, m6, m7, m8, m9, m10, m11, m12, m13, m14, hmB⟩ := mm
                clear mb
                have e : mailInF c m = mailF n m := by
                  unfold mailInF
                  rw [if_neg (by rw [ht]; simp), List.getD_eq_getElem?_getD, List.getElem?_eq_getElem t3, HN'.out]; rfl
                have EE := Lib.hid e; clear e
                go_still_tail 7, (by kernel_rfl)
                change wpList _ _ _ _ _ W.drew
                go_wp2_with (go_at_call 35; refine (mailFault_c n m _ _ _ _ _ _ _ _ _ _ _ ?_ ?_ ?_ ?_ ?_).mono ?_; exact ks5.below (by repeat (first | assumption | exact Below.refl _ _ | (refine below_trans ?_ (by assumption)) | apply below_alloc | apply below_drewN | apply Below.drew)); exact ks7.below (by repeat (first | assumption | exact Below.refl _ _ | (refine below_trans ?_ (by assumption)) | apply below_alloc | apply below_drewN | apply Below.drew)); exact ks8.below (by repeat (first | assumption | exact Below.refl _ _ | (refine below_trans ?_ (by assumption)) | apply below_alloc | apply below_drewN | apply Below.drew)); exact ks9.below (by repeat (first | assumption | exact Below.refl _ _ | (refine below_trans ?_ (by assumption)) | apply below_alloc | apply below_drewN | apply Below.drew)); exact hmB.below (by repeat (first | assumption | exact Below.refl _ _ | (refine below_trans ?_ (by assumption)) | apply below_alloc | apply below_drewN | apply Below.drew)); rintro e w5 ⟨rfl, hb5⟩)
                · have q := (show (mailF n m != 0) = true by assumption)
                  have hh := HS.out
                  go_ret; refine ⟨ret_int ?_, below_trans iW.below (by repeat (first | assumption | exact Below.refl _ _ | (refine below_trans ?_ (by assumption)) | apply below_alloc | apply below_drewN | apply Below.drew))⟩
                  rw [EE.out, if_pos q] at hh
                  rw [HR2.out, ← hh, if_pos q]
                · have q := (show (mailF n m != 0) = false by assumption)
                  have hh := HS.out
                  refine ⟨⟨k + 1, hlt, by go_num, ?_, iW.step (by repeat (first | assumption | exact Below.refl _ _ | (refine below_trans ?_ (by assumption)) | apply below_alloc | apply below_drewN | apply Below.drew))⟩, by simp [intOf]; omega⟩
                  rw [EE.out, if_neg (by rw [q]; simp)] at hh
                  exact hh
            · have HF := Lib.hid hf; clear hf
              go_wp2_with (go_at_call 36; refine (logFault_c c.Sealed _ _ _ ?_).mono ?_; exact h2.below hb; rintro e w5 ⟨rfl, hb5⟩)
              go_ret
              exact ⟨ret_int (by rw [HR2.out, ← HF.out, List.drop_of_length_le (by omega)]; rfl), by repeat (first | assumption | exact Below.refl _ _ | (refine below_trans ?_ (by assumption)) | apply below_alloc | apply below_drewN | apply Below.drew)⟩
end Go.Proofs.YtdjfehjddfbbjaaGreatDoor
