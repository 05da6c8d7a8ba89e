/- What a value holds, and the laws' size functions (written by gD1.py, own work). -/
import Derived.Test.YtdjfehjddfbbjaaGreatDoorTy
import Derived.Test.YtdjfehjddfbbjaaGreatDoorRo
import Derived.Test.YtdjfehjddfbbjaaGreatDoorProg
set_option linter.unusedVariables false
set_option linter.unusedSimpArgs false
namespace Go.Proofs.YtdjfehjddfbbjaaGreatDoor
open Go Go.RowKit Mk
theorem totL_take {α : Type} (f : α → Nat) (xs : List α) (k : Nat) (hk : k < xs.length) : ((xs.take (k + 1)).map f).sum = ((xs.take k).map f).sum + f xs[k] := by
  rw [List.take_succ_eq_append_getElem hk, List.map_append, List.sum_append]; simp only [List.map_cons, List.map_nil, List.sum_cons, List.sum_nil, Nat.add_zero]
theorem totL_le {α : Type} (f : α → Nat) (xs : List α) (k : Nat) : ((xs.take k).map f).sum ≤ (xs.map f).sum := by
  conv => rhs; rw [← List.take_append_drop k xs]
  rw [List.map_append, List.sum_append]; omega
def totL {α : Type} (f : α → Nat) (xs : List α) : Nat := xs.length + (xs.map f).sum
/-- What a size function comes to: what is left, or less than nothing. -/
def Left (left : Int) (t : Nat) (r : Int) : Prop := r ≤ left ∧ -1 ≤ r ∧ (0 ≤ r → (t : Int) + r ≤ left)
theorem szEntryS_c (A : Option Addr) (n c : Nat) (left : Int) (w : World) (hn : n ≤ 9223372036854775807) (hl0 : 0 ≤ left) (hl1 : left ≤ 1048576) :
    Calls Tryz.prog 12 #[.slice A n c, .int .i64 left] w fun e w' => (∃ r : Int, e = .returned (.int .i64 r) ∧ Left left n r) ∧ Below w.heap.size w w' := by
  go_enter Tryz.func12, Tryz.ntmps12
  go_wp2
  all_goals (go_ret; exact ⟨⟨_, rfl, by unfold Left; omega⟩, by repeat (first | assumption | exact Below.refl _ _ | (refine below_trans ?_ (by assumption)) | apply below_alloc | apply below_drewN | apply Below.drew)⟩)
theorem szInt64S_c (A : Option Addr) (n c : Nat) (left : Int) (w : World) (hn : n ≤ 9223372036854775807) (hl0 : 0 ≤ left) (hl1 : left ≤ 1048576) :
    Calls Tryz.prog 43 #[.slice A n c, .int .i64 left] w fun e w' => (∃ r : Int, e = .returned (.int .i64 r) ∧ Left left n r) ∧ Below w.heap.size w w' := by
  go_enter Tryz.func43, Tryz.ntmps43
  go_wp2
  all_goals (go_ret; exact ⟨⟨_, rfl, by unfold Left; omega⟩, by repeat (first | assumption | exact Below.refl _ _ | (refine below_trans ?_ (by assumption)) | apply below_alloc | apply below_drewN | apply Below.drew)⟩)
theorem szBoolS_c (A : Option Addr) (n c : Nat) (left : Int) (w : World) (hn : n ≤ 9223372036854775807) (hl0 : 0 ≤ left) (hl1 : left ≤ 1048576) :
    Calls Tryz.prog 44 #[.slice A n c, .int .i64 left] w fun e w' => (∃ r : Int, e = .returned (.int .i64 r) ∧ Left left n r) ∧ Below w.heap.size w w' := by
  go_enter Tryz.func44, Tryz.ntmps44
  go_wp2
  all_goals (go_ret; exact ⟨⟨_, rfl, by unfold Left; omega⟩, by repeat (first | assumption | exact Below.refl _ _ | (refine below_trans ?_ (by assumption)) | apply below_alloc | apply below_drewN | apply Below.drew)⟩)
def totDoer (x : SDoer) : Nat := x.Log.length
set_option maxRecDepth 100000 in
set_option maxHeartbeats 4000000 in
theorem szDoer_c (x : SDoer) (A2 : Option Addr) (c2 : Nat) (left : Int) (w : World) (h2 : RdS kEntry w A2 c2 x.Log) (hl0 : 0 ≤ left) (hl1 : left ≤ 1048576) :
    Calls Tryz.prog 70 #[.agg #[.bool x.Known, .int .i64 x.Last, .slice A2 x.Log.length c2, .int .i64 x.Commit], .int .i64 left] w fun e w' => (∃ r : Int, e = .returned (.int .i64 r) ∧ Left left (totDoer x) r) ∧ Below w.heap.size w w' := by
  go_enter Tryz.func70, Tryz.ntmps70
  go_wp2_with (go_at_call 12; refine (szEntryS_c _ _ _ _ _ h2.le63 (by omega) (by omega)).mono ?_; rintro e w1 ⟨⟨r1, rfl, q1⟩, hb1⟩; have i1 : InDoer w x 123 A2 c2 w1 := (by unfold InDoer; repeat (first | assumption | exact Below.refl _ _ | (refine below_trans ?_ (by assumption)) | apply below_alloc | apply below_drewN | apply Below.drew)); have k1 := i1.seen; have q1' := q1; unfold Left at q1')
  all_goals (go_ret; refine ⟨⟨_, rfl, ?_⟩, by repeat (first | assumption | exact Below.refl _ _ | (refine below_trans ?_ (by assumption)) | apply below_alloc | apply below_drewN | apply Below.drew)⟩; unfold Left totDoer; omega)
set_option maxRecDepth 100000 in
set_option maxHeartbeats 4000000 in
theorem szDoerS_c (xs : List SDoer) (A : Option Addr) (c : Nat) (left : Int) (w : World) (h : RdS kDoer w A c xs) (hl0 : 0 ≤ left) (hl1 : left ≤ 1048576) :
    Calls Tryz.prog 45 #[.slice A xs.length c, .int .i64 left] w fun e w' => (∃ r : Int, e = .returned (.int .i64 r) ∧ Left left (totL totDoer xs) r) ∧ Below w.heap.size w w' := by
  have hn := h.le63
  by_cases hz : (xs.length : Int) ≤ left
  · go_enter Tryz.func45, Tryz.ntmps45
    go_wp2_with fail
    go_loopw [1, 5] (fun l i W => ∃ k : Nat, k ≤ xs.length ∧ i = .int .i64 k ∧ ∃ m : Int, l = .int .i64 m ∧ 0 ≤ m ∧ m ≤ left ∧ (xs.length : Int) + (((xs.take k).map totDoer).sum : Nat) + m ≤ left ∧ Below w.heap.size w W) (fun _ i _ => xs.length - (intOf i).toNat)
    case atStart => exact ⟨0, Nat.zero_le _, rfl, _, rfl, by omega, by omega, by rw [List.take_zero, List.map_nil, List.sum_nil]; omega, Below.refl _ _⟩
    case round =>
      obtain ⟨k, hk, rfl, m, rfl, hm, hml, hs, hb⟩ := hrel
      by_cases hlt : k < xs.length
      · have hlt' : (k : Int) < (xs.length : Int) := by omega
        have hst := totL_take totDoer xs k hlt
        have hsl := totL_le totDoer xs (k + 1)
        obtain ⟨a, ea, hx⟩ := (h.below hb).at_ hlt
        subst ea
        simp only [show kDoer.sz = 4 from rfl] at hx
        generalize xs[k] = x at hx hst
        obtain ⟨A2, c2, hh⟩ := atDoer hx
        obtain ⟨f0, f1, f2, f3, h2⟩ := hh
        have hst := Lib.hid hst
        have hsl := Lib.hid hsl
        have hs := Lib.hid hs
        go_wp2_with (go_at_call 70; refine (szDoer_c x A2 c2 m _ h2 hm (by omega)).mono ?_; rintro e w1 ⟨⟨r, rfl, hr⟩, hb1⟩)
        · have hr' := hr; unfold Left at hr'; have := hst.out; have := hsl.out; have := hs.out
          go_ret; refine ⟨⟨_, rfl, ?_⟩, by repeat (first | assumption | exact Below.refl _ _ | (refine below_trans ?_ (by assumption)) | apply below_alloc | apply below_drewN | apply Below.drew)⟩; unfold Left totL; omega
        · have hr' := hr; unfold Left at hr'; have := hst.out; have := hsl.out; have := hs.out
          refine ⟨⟨k + 1, hlt, by go_num, r, rfl, by omega, by omega, by omega, by repeat (first | assumption | exact Below.refl _ _ | (refine below_trans ?_ (by assumption)) | apply below_alloc | apply below_drewN | apply Below.drew)⟩, by simp [intOf]; omega⟩
      · have hk' : k = xs.length := by omega
        subst hk'
        rw [List.take_length] at hs
        go_wp2
        go_ret
        refine ⟨⟨_, rfl, ?_⟩, by repeat (first | assumption | exact Below.refl _ _ | (refine below_trans ?_ (by assumption)) | apply below_alloc | apply below_drewN | apply Below.drew)⟩; unfold Left totL; omega
  · go_enter Tryz.func45, Tryz.ntmps45
    go_wp2
    go_ret; exact ⟨⟨_, rfl, by unfold Left; omega⟩, by repeat (first | assumption | exact Below.refl _ _ | (refine below_trans ?_ (by assumption)) | apply below_alloc | apply below_drewN | apply Below.drew)⟩
def totReplica (x : SReplica) : Nat := x.Log.length + x.Oks.length + x.Asks.length + totL totDoer x.Doers
set_option maxRecDepth 100000 in
set_option maxHeartbeats 4000000 in
theorem szReplica_c (x : SReplica) (A5 : Option Addr) (c5 : Nat) (A7 : Option Addr) (c7 : Nat) (A8 : Option Addr) (c8 : Nat) (A9 : Option Addr) (c9 : Nat) (left : Int) (w : World) (h5 : RdS kEntry w A5 c5 x.Log) (h7 : RdS kInt w A7 c7 x.Oks) (h8 : RdS kBool w A8 c8 x.Asks) (h9 : RdS kDoer w A9 c9 x.Doers) (hl0 : 0 ≤ left) (hl1 : left ≤ 1048576) :
    Calls Tryz.prog 23 #[.agg #[.int .i64 x.Id, .int .i64 x.Size, .int .i64 x.View, .bool x.Normal, .int .i64 x.Last, .slice A5 x.Log.length c5, .int .i64 x.Commit, .slice A7 x.Oks.length c7, .slice A8 x.Asks.length c8, .slice A9 x.Doers.length c9], .int .i64 left] w fun e w' => (∃ r : Int, e = .returned (.int .i64 r) ∧ Left left (totReplica x) r) ∧ Below w.heap.size w w' := by
  go_enter Tryz.func23, Tryz.ntmps23
  go_wp2_with (first | (go_at_call 12; refine (szEntryS_c _ _ _ _ _ h5.le63 (by omega) (by omega)).mono ?_; rintro e w1 ⟨⟨r1, rfl, q1⟩, hb1⟩; have i1 : InReplica w x 59 A5 c5 A7 c7 A8 c8 A9 c9 w1 := (by unfold InReplica; repeat (first | assumption | exact Below.refl _ _ | (refine below_trans ?_ (by assumption)) | apply below_alloc | apply below_drewN | apply Below.drew)); have k1 := i1.seen; have q1' := q1; unfold Left at q1') | (go_at_call 43; refine (szInt64S_c _ _ _ _ _ h7.le63 (by omega) (by omega)).mono ?_; rintro e w2 ⟨⟨r2, rfl, q2⟩, hb2⟩; have i2 : InReplica w x 59 A5 c5 A7 c7 A8 c8 A9 c9 w2 := (by unfold InReplica; repeat (first | assumption | exact Below.refl _ _ | (refine below_trans ?_ (by assumption)) | apply below_alloc | apply below_drewN | apply Below.drew)); have k2 := i2.seen; have q2' := q2; unfold Left at q2') | (go_at_call 44; refine (szBoolS_c _ _ _ _ _ h8.le63 (by omega) (by omega)).mono ?_; rintro e w3 ⟨⟨r3, rfl, q3⟩, hb3⟩; have i3 : InReplica w x 59 A5 c5 A7 c7 A8 c8 A9 c9 w3 := (by unfold InReplica; repeat (first | assumption | exact Below.refl _ _ | (refine below_trans ?_ (by assumption)) | apply below_alloc | apply below_drewN | apply Below.drew)); have k3 := i3.seen; have q3' := q3; unfold Left at q3') | (go_at_call 45; refine (szDoerS_c _ _ _ _ _ (h9.below (by repeat (first | assumption | exact Below.refl _ _ | (refine below_trans ?_ (by assumption)) | apply below_alloc | apply below_drewN | apply Below.drew))) (by omega) (by omega)).mono ?_; rintro e w4 ⟨⟨r4, rfl, q4⟩, hb4⟩; have i4 : InReplica w x 59 A5 c5 A7 c7 A8 c8 A9 c9 w4 := (by unfold InReplica; repeat (first | assumption | exact Below.refl _ _ | (refine below_trans ?_ (by assumption)) | apply below_alloc | apply below_drewN | apply Below.drew)); have k4 := i4.seen; have q4' := q4; unfold Left at q4'))
  all_goals (go_ret; refine ⟨⟨_, rfl, ?_⟩, by repeat (first | assumption | exact Below.refl _ _ | (refine below_trans ?_ (by assumption)) | apply below_alloc | apply below_drewN | apply Below.drew)⟩; unfold Left totReplica; omega)
set_option maxRecDepth 100000 in
set_option maxHeartbeats 4000000 in
theorem szReplicaS_c (xs : List SReplica) (A : Option Addr) (c : Nat) (left : Int) (w : World) (h : RdS kReplica w A c xs) (hl0 : 0 ≤ left) (hl1 : left ≤ 1048576) :
    Calls Tryz.prog 10 #[.slice A xs.length c, .int .i64 left] w fun e w' => (∃ r : Int, e = .returned (.int .i64 r) ∧ Left left (totL totReplica xs) r) ∧ Below w.heap.size w w' := by
  have hn := h.le63
  by_cases hz : (xs.length : Int) ≤ left
  · go_enter Tryz.func10, Tryz.ntmps10
    go_wp2_with fail
    go_loopw [1, 5] (fun l i W => ∃ k : Nat, k ≤ xs.length ∧ i = .int .i64 k ∧ ∃ m : Int, l = .int .i64 m ∧ 0 ≤ m ∧ m ≤ left ∧ (xs.length : Int) + (((xs.take k).map totReplica).sum : Nat) + m ≤ left ∧ Below w.heap.size w W) (fun _ i _ => xs.length - (intOf i).toNat)
    case atStart => exact ⟨0, Nat.zero_le _, rfl, _, rfl, by omega, by omega, by rw [List.take_zero, List.map_nil, List.sum_nil]; omega, Below.refl _ _⟩
    case round =>
      obtain ⟨k, hk, rfl, m, rfl, hm, hml, hs, hb⟩ := hrel
      by_cases hlt : k < xs.length
      · have hlt' : (k : Int) < (xs.length : Int) := by omega
        have hst := totL_take totReplica xs k hlt
        have hsl := totL_le totReplica xs (k + 1)
        obtain ⟨a, ea, hx⟩ := (h.below hb).at_ hlt
        subst ea
        simp only [show kReplica.sz = 10 from rfl] at hx
        generalize xs[k] = x at hx hst
        obtain ⟨A5, c5, A7, c7, A8, c8, A9, c9, hh⟩ := atReplica hx
        obtain ⟨f0, f1, f2, f3, f4, f5, f6, f7, f8, f9, h5, h7, h8, h9⟩ := hh
        have hst := Lib.hid hst
        have hsl := Lib.hid hsl
        have hs := Lib.hid hs
        go_wp2_with (go_at_call 23; refine (szReplica_c x A5 c5 A7 c7 A8 c8 A9 c9 m _ h5 h7 h8 h9 hm (by omega)).mono ?_; rintro e w1 ⟨⟨r, rfl, hr⟩, hb1⟩)
        · have hr' := hr; unfold Left at hr'; have := hst.out; have := hsl.out; have := hs.out
          go_ret; refine ⟨⟨_, rfl, ?_⟩, by repeat (first | assumption | exact Below.refl _ _ | (refine below_trans ?_ (by assumption)) | apply below_alloc | apply below_drewN | apply Below.drew)⟩; unfold Left totL; omega
        · have hr' := hr; unfold Left at hr'; have := hst.out; have := hsl.out; have := hs.out
          refine ⟨⟨k + 1, hlt, by go_num, r, rfl, by omega, by omega, by omega, by repeat (first | assumption | exact Below.refl _ _ | (refine below_trans ?_ (by assumption)) | apply below_alloc | apply below_drewN | apply Below.drew)⟩, by simp [intOf]; omega⟩
      · have hk' : k = xs.length := by omega
        subst hk'
        rw [List.take_length] at hs
        go_wp2
        go_ret
        refine ⟨⟨_, rfl, ?_⟩, by repeat (first | assumption | exact Below.refl _ _ | (refine below_trans ?_ (by assumption)) | apply below_alloc | apply below_drewN | apply Below.drew)⟩; unfold Left totL; omega
  · go_enter Tryz.func10, Tryz.ntmps10
    go_wp2
    go_ret; exact ⟨⟨_, rfl, by unfold Left; omega⟩, by repeat (first | assumption | exact Below.refl _ _ | (refine below_trans ?_ (by assumption)) | apply below_alloc | apply below_drewN | apply Below.drew)⟩
def totMail (x : SMail) : Nat := x.Log.length
set_option maxRecDepth 100000 in
set_option maxHeartbeats 4000000 in
theorem szMail_c (x : SMail) (A13 : Option Addr) (c13 : Nat) (left : Int) (w : World) (h13 : RdS kEntry w A13 c13 x.Log) (hl0 : 0 ≤ left) (hl1 : left ≤ 1048576) :
    Calls Tryz.prog 24 #[.agg #[.int .i64 x.Kind, .int .i64 x.From, .int .i64 x.To, .int .i64 x.View, .int .i64 x.At, .bool x.Has, .int .i64 x.Entry.Client, .int .i64 x.Entry.Seq, .int .i64 x.Entry.Op.Kind, .int .i64 x.Entry.Op.Vol, .int .i64 x.Entry.Op.At, .int .i64 x.Entry.Op.Value, .int .i64 x.Last, .slice A13 x.Log.length c13, .int .i64 x.Commit], .int .i64 left] w fun e w' => (∃ r : Int, e = .returned (.int .i64 r) ∧ Left left (totMail x) r) ∧ Below w.heap.size w w' := by
  go_enter Tryz.func24, Tryz.ntmps24
  go_wp2_with (go_at_call 12; refine (szEntryS_c _ _ _ _ _ h13.le63 (by omega) (by omega)).mono ?_; rintro e w1 ⟨⟨r1, rfl, q1⟩, hb1⟩; have i1 : InMail w x 66 A13 c13 w1 := (by unfold InMail; repeat (first | assumption | exact Below.refl _ _ | (refine below_trans ?_ (by assumption)) | apply below_alloc | apply below_drewN | apply Below.drew)); have k1 := i1.seen; have q1' := q1; unfold Left at q1')
  all_goals (go_ret; refine ⟨⟨_, rfl, ?_⟩, by repeat (first | assumption | exact Below.refl _ _ | (refine below_trans ?_ (by assumption)) | apply below_alloc | apply below_drewN | apply Below.drew)⟩; unfold Left totMail; omega)
set_option maxRecDepth 100000 in
set_option maxHeartbeats 4000000 in
theorem szMailS_c (xs : List SMail) (A : Option Addr) (c : Nat) (left : Int) (w : World) (h : RdS kMail w A c xs) (hl0 : 0 ≤ left) (hl1 : left ≤ 1048576) :
    Calls Tryz.prog 11 #[.slice A xs.length c, .int .i64 left] w fun e w' => (∃ r : Int, e = .returned (.int .i64 r) ∧ Left left (totL totMail xs) r) ∧ Below w.heap.size w w' := by
  have hn := h.le63
  by_cases hz : (xs.length : Int) ≤ left
  · go_enter Tryz.func11, Tryz.ntmps11
    go_wp2_with fail
    go_loopw [1, 5] (fun l i W => ∃ k : Nat, k ≤ xs.length ∧ i = .int .i64 k ∧ ∃ m : Int, l = .int .i64 m ∧ 0 ≤ m ∧ m ≤ left ∧ (xs.length : Int) + (((xs.take k).map totMail).sum : Nat) + m ≤ left ∧ Below w.heap.size w W) (fun _ i _ => xs.length - (intOf i).toNat)
    case atStart => exact ⟨0, Nat.zero_le _, rfl, _, rfl, by omega, by omega, by rw [List.take_zero, List.map_nil, List.sum_nil]; omega, Below.refl _ _⟩
    case round =>
      obtain ⟨k, hk, rfl, m, rfl, hm, hml, hs, hb⟩ := hrel
      by_cases hlt : k < xs.length
      · have hlt' : (k : Int) < (xs.length : Int) := by omega
        have hst := totL_take totMail xs k hlt
        have hsl := totL_le totMail xs (k + 1)
        obtain ⟨a, ea, hx⟩ := (h.below hb).at_ hlt
        subst ea
        simp only [show kMail.sz = 15 from rfl] at hx
        generalize xs[k] = x at hx hst
        obtain ⟨A13, c13, hh⟩ := atMail hx
        obtain ⟨f0, f1, f2, f3, f4, f5, f6, f7, f8, f9, f10, f11, f12, f13, f14, h13⟩ := hh
        have hst := Lib.hid hst
        have hsl := Lib.hid hsl
        have hs := Lib.hid hs
        go_wp2_with (go_at_call 24; refine (szMail_c x A13 c13 m _ h13 hm (by omega)).mono ?_; rintro e w1 ⟨⟨r, rfl, hr⟩, hb1⟩)
        · have hr' := hr; unfold Left at hr'; have := hst.out; have := hsl.out; have := hs.out
          go_ret; refine ⟨⟨_, rfl, ?_⟩, by repeat (first | assumption | exact Below.refl _ _ | (refine below_trans ?_ (by assumption)) | apply below_alloc | apply below_drewN | apply Below.drew)⟩; unfold Left totL; omega
        · have hr' := hr; unfold Left at hr'; have := hst.out; have := hsl.out; have := hs.out
          refine ⟨⟨k + 1, hlt, by go_num, r, rfl, by omega, by omega, by omega, by repeat (first | assumption | exact Below.refl _ _ | (refine below_trans ?_ (by assumption)) | apply below_alloc | apply below_drewN | apply Below.drew)⟩, by simp [intOf]; omega⟩
      · have hk' : k = xs.length := by omega
        subst hk'
        rw [List.take_length] at hs
        go_wp2
        go_ret
        refine ⟨⟨_, rfl, ?_⟩, by repeat (first | assumption | exact Below.refl _ _ | (refine below_trans ?_ (by assumption)) | apply below_alloc | apply below_drewN | apply Below.drew)⟩; unfold Left totL; omega
  · go_enter Tryz.func11, Tryz.ntmps11
    go_wp2
    go_ret; exact ⟨⟨_, rfl, by unfold Left; omega⟩, by repeat (first | assumption | exact Below.refl _ _ | (refine below_trans ?_ (by assumption)) | apply below_alloc | apply below_drewN | apply Below.drew)⟩
def totCluster (x : SCluster) : Nat := totL totReplica x.Nodes + totL totMail x.Mails + x.Sealed.length
set_option maxRecDepth 100000 in
set_option maxHeartbeats 4000000 in
theorem szCluster_c (x : SCluster) (A0 : Option Addr) (c0 : Nat) (A1 : Option Addr) (c1 : Nat) (A2 : Option Addr) (c2 : Nat) (left : Int) (w : World) (h0 : RdS kReplica w A0 c0 x.Nodes) (h1 : RdS kMail w A1 c1 x.Mails) (h2 : RdS kEntry w A2 c2 x.Sealed) (hl0 : 0 ≤ left) (hl1 : left ≤ 1048576) :
    Calls Tryz.prog 4 #[.agg #[.slice A0 x.Nodes.length c0, .slice A1 x.Mails.length c1, .slice A2 x.Sealed.length c2], .int .i64 left] w fun e w' => (∃ r : Int, e = .returned (.int .i64 r) ∧ Left left (totCluster x) r) ∧ Below w.heap.size w w' := by
  go_enter Tryz.func4, Tryz.ntmps4
  go_wp2_with (first | (go_at_call 10; refine (szReplicaS_c _ _ _ _ _ (h0.below (by repeat (first | assumption | exact Below.refl _ _ | (refine below_trans ?_ (by assumption)) | apply below_alloc | apply below_drewN | apply Below.drew))) (by omega) (by omega)).mono ?_; rintro e w1 ⟨⟨r1, rfl, q1⟩, hb1⟩; have i1 : InCluster w x 26 A0 c0 A1 c1 A2 c2 w1 := (by unfold InCluster; repeat (first | assumption | exact Below.refl _ _ | (refine below_trans ?_ (by assumption)) | apply below_alloc | apply below_drewN | apply Below.drew)); have k1 := i1.seen; have q1' := q1; unfold Left at q1') | (go_at_call 11; refine (szMailS_c _ _ _ _ _ (h1.below (by repeat (first | assumption | exact Below.refl _ _ | (refine below_trans ?_ (by assumption)) | apply below_alloc | apply below_drewN | apply Below.drew))) (by omega) (by omega)).mono ?_; rintro e w2 ⟨⟨r2, rfl, q2⟩, hb2⟩; have i2 : InCluster w x 26 A0 c0 A1 c1 A2 c2 w2 := (by unfold InCluster; repeat (first | assumption | exact Below.refl _ _ | (refine below_trans ?_ (by assumption)) | apply below_alloc | apply below_drewN | apply Below.drew)); have k2 := i2.seen; have q2' := q2; unfold Left at q2') | (go_at_call 12; refine (szEntryS_c _ _ _ _ _ h2.le63 (by omega) (by omega)).mono ?_; rintro e w3 ⟨⟨r3, rfl, q3⟩, hb3⟩; have i3 : InCluster w x 26 A0 c0 A1 c1 A2 c2 w3 := (by unfold InCluster; repeat (first | assumption | exact Below.refl _ _ | (refine below_trans ?_ (by assumption)) | apply below_alloc | apply below_drewN | apply Below.drew)); have k3 := i3.seen; have q3' := q3; unfold Left at q3'))
  all_goals (go_ret; refine ⟨⟨_, rfl, ?_⟩, by repeat (first | assumption | exact Below.refl _ _ | (refine below_trans ?_ (by assumption)) | apply below_alloc | apply below_drewN | apply Below.drew)⟩; unfold Left totCluster; omega)
end Go.Proofs.YtdjfehjddfbbjaaGreatDoor
