/- The law News, walked (own work). -/
import Derived.Test.YtnbenhkbcodlfaaZS3
set_option linter.unusedVariables false
set_option linter.unusedSimpArgs false
namespace Go.Proofs.Ytnbenhkbcodlfaa
open Go Go.RowKit Mk
theorem size_drew (w : World) : w.drew.heap.size = w.heap.size := rfl
theorem blk_alloc_drew (w : World) (l : List Value) (e : TypeId) : Blk (w.alloc (.cells l.toArray e)).drew w.heap.size e l := Blk.keep (blk_alloc w l e) rfl
/-- A cluster's result that is laid and read, its box held by s. -/
def AnsR (X : SClusterResult) (w1 : World) (s : Value) (W : World) : Prop := ∃ g S1 s1 S2 s2 S3 s3, s = .pointer (some ⟨g, 0, none⟩) ∧ Blk W g 42 [.int .i64 X.Code, .slice S1 X.Cluster.Nodes.length s1, .slice S2 X.Cluster.Mails.length s2, .slice S3 X.Cluster.Sealed.length s3] ∧ RdS kReplica W S1 s1 X.Cluster.Nodes ∧ RdS kMail W S2 s2 X.Cluster.Mails ∧ RdS kEntry W S3 s3 X.Cluster.Sealed ∧ w1.heap.size ≤ g ∧ Below w1.heap.size w1 W
theorem turn4 (w : World) (g : Nat) (a b c d : Value) : Turn [g] w ((((w.setCell ⟨g, 0, none⟩ a).setCell ⟨g, 1, none⟩ b).setCell ⟨g, 2, none⟩ c).setCell ⟨g, 3, none⟩ d) := ((((Turn.refl [g] w).set (by simp) _).set (by simp) _).set (by simp) _).set (by simp) _
theorem blk4 {w : World} {g : Nat} {e : TypeId} {v0 v1 v2 v3 : Value} (kk : Blk w g e [v0, v1, v2, v3]) (a b c d : Value) : Blk ((((w.setCell ⟨g, 0, none⟩ a).setCell ⟨g, 1, none⟩ b).setCell ⟨g, 2, none⟩ c).setCell ⟨g, 3, none⟩ d) g e [a, b, c, d] := (((kk.set0 0 a).set0 1 b).set0 2 c).set0 3 d
section
variable {X : SClusterResult} {w1 wS : World} {B g : Nat} {v0 v1 v2 v3 : Value} {S1 S2 S3 : Option Addr} {s1 s2 s3 : Nat} {u1 u2 u3 : List Nat}
theorem ansR_late (hS : HasClusterResult B wS X S1 s1 S2 s2 S3 s3 u1 u2 u3) (hb : Below w1.heap.size w1 wS) : AnsR X w1 (.pointer (some ⟨wS.heap.size, 0, none⟩)) (wS.alloc (.cells #[.int .i64 X.Code, .slice S1 X.Cluster.Nodes.length s1, .slice S2 X.Cluster.Mails.length s2, .slice S3 X.Cluster.Sealed.length s3] 42)) :=
  ⟨wS.heap.size, S1, s1, S2, s2, S3, s3, rfl, blk_alloc wS _ _, (ownS_rds hS.1).1.below (below_alloc (Below.refl _ _) _), (ownS_rds hS.2.1).1.below (below_alloc (Below.refl _ _) _), (ownS_rds hS.2.2.1).1.below (below_alloc (Below.refl _ _) _), hb.size, below_alloc hb _⟩
theorem ansR_early (kk : Blk wS g 42 [v0, v1, v2, v3]) (hS : HasClusterResult B wS X S1 s1 S2 s2 S3 s3 u1 u2 u3) (hgB : g < B) (hg : w1.heap.size ≤ g) (hb : Below w1.heap.size w1 wS) : AnsR X w1 (.pointer (some ⟨g, 0, none⟩)) ((((wS.setCell ⟨g, 0, none⟩ (.int .i64 X.Code)).setCell ⟨g, 1, none⟩ (.slice S1 X.Cluster.Nodes.length s1)).setCell ⟨g, 2, none⟩ (.slice S2 X.Cluster.Mails.length s2)).setCell ⟨g, 3, none⟩ (.slice S3 X.Cluster.Sealed.length s3)) := by
  have T := turn4 wS g (.int .i64 X.Code) (.slice S1 X.Cluster.Nodes.length s1) (.slice S2 X.Cluster.Mails.length s2) (.slice S3 X.Cluster.Sealed.length s3)
  have K := blk4 kk (.int .i64 X.Code) (.slice S1 X.Cluster.Nodes.length s1) (.slice S2 X.Cluster.Mails.length s2) (.slice S3 X.Cluster.Sealed.length s3)
  generalize ((((wS.setCell ⟨g, 0, none⟩ (.int .i64 X.Code)).setCell ⟨g, 1, none⟩ (.slice S1 X.Cluster.Nodes.length s1)).setCell ⟨g, 2, none⟩ (.slice S2 X.Cluster.Mails.length s2)).setCell ⟨g, 3, none⟩ (.slice S3 X.Cluster.Sealed.length s3)) = W at T K ⊢
  exact ⟨g, S1, s1, S2, s2, S3, s3, rfl, K, (ownS_rds (hS.1.turn T (fun b hm h => by have := (hS.1.in b hm).1; simp at h; omega))).1, (ownS_rds (hS.2.1.turn T (fun b hm h => by have := (hS.2.1.in b hm).1; simp at h; omega))).1, (ownS_rds (hS.2.2.1.turn T (fun b hm h => by have := (hS.2.2.1.in b hm).1; simp at h; omega))).1, hg, hb.trans (T.below (B := w1.heap.size) (by intro b h; simp at h; omega) hb.size)⟩
end
theorem field_cr (v0 v1 v2 v3 : Value) (W : World) : (Instr.field 42 (.agg #[v0, v1, v2, v3]) 0).run Try.prog W = .ok v0 W := by kernel_rfl
set_option maxRecDepth 100000 in
set_option maxHeartbeats 8000000 in
theorem law_News (code : List (Fin 256)) (A : Option Addr) (c : Nat) (w : World) (hr : RdS kU8 w A c code) :
    Calls Try.prog 4 #[.slice A code.length c] w fun e w' => e = .returned (.bool true) ∧ Below w.heap.size w w' := by
  have hln := hr.le63
  by_cases hbig : 1048576 < code.length
  · have hd : decide ((1048576 : Int) < (code.length : Int)) = true := decide_eq_true (by omega)
    have HB := Lib.hid (lwBig_c code.length c A w hln)
    rw [hd] at HB
    go_enter Try.func4, Try.ntmps4
    go_wp2_with (go_at_call 14; refine HB.out.mono ?_; rintro e w1 ⟨rfl, rfl⟩)
    go_ret
    exact ⟨rfl, Below.refl _ _⟩
  have hd : decide ((1048576 : Int) < (code.length : Int)) = false := decide_eq_false (by omega)
  have HB := Lib.hid (lwBig_c code.length c A w hln)
  rw [hd] at HB
  clear hd
  go_enter Try.func4, Try.ntmps4
  go_wp2_with (go_at_call 14; refine HB.out.mono ?_; rintro e w1 ⟨rfl, rfl⟩)
  refine (drawNewCluster_c code A c _ hr).mono ?_
  rintro e w2 ⟨v, rfl, v0, v6, b2⟩
  clear HB
  cases hv : wi v 1 5 with
  | false =>
    have HV := Lib.hid hv
    clear hv
    go_wp2_with fail
    refine (iNewCluster_bad v w2 HV.out).mono ?_
    rintro e w3 ⟨rfl, hb3⟩
    have bw3 := below_trans b2 hb3
    clear b2 hb3
    go_upto_region 5 with fail
    refine at_world (fun W => Blk W w3.heap.size 42 [.int .i64 3, .slice none 0 0, .slice none 0 0, .slice none 0 0] ∧ Below w3.heap.size w3 W) ⟨blk_alloc w3 _ _, below_alloc (Below.refl _ _) _⟩ ?_
    rintro W4 ⟨z, b4⟩
    have bw4 := below_trans bw3 b4
    have z0 := z.cell (j := 0) rfl
    go_wp2_with fail
    have hFd := fun W => field_cr (.int .i64 3) (.slice none 0 0) (.slice none 0 0) (.slice none 0 0) W
    go_region_law ((try go_simp); go_at_call 17; refine (sNewCluster_bad v _ HV.out).mono ?_; rintro e w5 ⟨rfl, hb5⟩; have z5 := (z.below (show Below W4.heap.size W4 w5 by repeat (first | (with_reducible assumption) | (with_reducible exact Below.refl _ _) | (with_reducible apply below_alloc) | (with_reducible apply below_drewN) | (with_reducible apply Below.drew) | (with_reducible refine below_set ?_ (by dsimp only; omega) _) | (with_reducible refine below_trans ?_ (by assumption))))).cell (j := 0) rfl)
    all_goals (go_wp2_with fail)
    all_goals (go_ret)
    all_goals (exact ⟨rfl, by repeat (first | (with_reducible assumption) | (with_reducible exact Below.refl _ _) | (with_reducible apply below_alloc) | (with_reducible apply below_drewN) | (with_reducible apply Below.drew) | (with_reducible refine below_set ?_ (by dsimp only; omega) _) | (with_reducible refine below_trans ?_ (by assumption)))⟩)
  | true =>
  have hw := wi_b hv
  obtain ⟨s, rfl⟩ := Int.eq_ofNat_of_zero_le (show 0 ≤ v by omega)
  have h1 : 1 ≤ s := by omega
  have h5 : s ≤ 5 := by omega
  have HN : ∀ W, Calls Try.prog 16 #[.int .i64 (s : Int)] W fun r W' => LaidCR ⟨0, newC s⟩ W r W' := fun W => iNewCluster_c s W h1 h5
  have HF : ∀ k, k < s → NewsIs (newC s) s k := fun k hk => news_is h1 h5 hk
  have hlen : (newC s).Nodes.length = s := newL_len s s
  generalize newC s = X at HN HF hlen
  have HLN := Lib.hid hlen
  clear hlen
  obtain ⟨-, F1, F2, F3, F4, -⟩ := HF 0 (by omega)
  have HN := Lib.hid HN
  have HF := Lib.hid HF
  have HL := Lib.hid (iLeaderOf_c X)
  rw [F2] at HL
  have HE := Lib.hid (iEvenCluster_c X)
  rw [F3] at HE
  have HSf := Lib.hid (iSafeCluster_c X)
  rw [F4] at HSf
  have HC := Lib.hid (fun k : Nat => iCrashAt_c X k)
  have HT := Lib.hid (fun k : Nat => iTimeoutAt_c X k)
  clear F1 F2 F3 F4 hw hv v0 v6
  go_wp2_with fail
  refine (HN.out w2).mono ?_
  rintro e w3 ⟨P1, a1, P2, a2, P3, a3, g1, g2, g3, rfl, ⟨o1, o2, o3, -⟩, hb3⟩
  have m1 := (ownS_rds o1).1
  have m2 := (ownS_rds o2).1
  have m3 := (ownS_rds o3).1
  have bw3 := below_trans b2 hb3
  clear b2 hb3 o1 o2 o3 HN
  dsimp only at m1 m2 m3
  go_upto_region 5 with fail
  refine at_world (fun W => Blk W w3.heap.size 42 [.int .i64 0, .slice P1 X.Nodes.length a1, .slice P2 X.Mails.length a2, .slice P3 X.Sealed.length a3] ∧ Below w3.heap.size w3 W) ⟨blk_alloc w3 _ _, below_alloc (Below.refl _ _) _⟩ ?_
  rintro W4 ⟨z, b4⟩
  have bw4 := below_trans bw3 b4
  replace m1 := m1.below b4
  replace m2 := m2.below b4
  replace m3 := m3.below b4
  obtain ⟨g4, hg4⟩ : ∃ g, g = w3.heap.size := ⟨_, rfl⟩
  rw [← hg4] at z ⊢
  clear bw3 b4 hg4
  have y_0 := z.cell (j := 0) rfl
  have y_1 := z.cell (j := 1) rfl
  have y_2 := z.cell (j := 2) rfl
  have y_3 := z.cell (j := 3) rfl
  go_wp2_with fail
  refine (HL.out _ _ _ _ _ _ W4 m1 m2 m3).mono ?_
  rintro e w5 ⟨rfl, hb5⟩
  go_upto_region 8 with fail
  refine at_world (fun W => Blk W w5.heap.size 45 [.int .i64 0, .int .i64 0] ∧ Below w5.heap.size w5 W) ⟨blk_alloc w5 _ _, below_alloc (Below.refl _ _) _⟩ ?_
  rintro W6 ⟨l, b6⟩
  have b46 := below_trans hb5 b6
  have bw6 := below_trans bw4 b46
  replace m1 := m1.below b46
  replace m2 := m2.below b46
  replace m3 := m3.below b46
  replace z := z.below b46
  obtain ⟨g5, hg5⟩ : ∃ g, g = w5.heap.size := ⟨_, rfl⟩
  rw [← hg5] at l ⊢
  clear hb5 b6 b46 bw4 hg5 HL y_0 y_1 y_2 y_3
  have hrb := hr.below bw6
  have y_0 := z.cell (j := 0) rfl
  have y_1 := z.cell (j := 1) rfl
  have y_2 := z.cell (j := 2) rfl
  have y_3 := z.cell (j := 3) rfl
  have zl := z.lt
  go_cut [6] (fun sv W' => ∃ k : Nat, k < s ∧ AnsR (atX crashX X k) W6 sv W')
  case first =>
    go_region_with (first | (go_at_call 20; refine (lwAt_c code A c 1 s _ (hrb.below (by repeat (first | (with_reducible assumption) | (with_reducible exact Below.refl _ _) | (with_reducible apply below_alloc) | (with_reducible apply below_drewN) | (with_reducible apply Below.drew) | (with_reducible refine below_set ?_ (by dsimp only; omega) _) | (with_reducible refine below_trans ?_ (by assumption))))) (by omega) (by omega) (by omega)).mono ?_; rintro e wA ⟨kv, rfl, hk0, hk1, hbA⟩; obtain ⟨kn, rfl⟩ := Int.eq_ofNat_of_zero_le hk0; have zA := z.below (show Below W6.heap.size W6 wA by repeat (first | (with_reducible assumption) | (with_reducible exact Below.refl _ _) | (with_reducible apply below_alloc) | (with_reducible apply below_drewN) | (with_reducible apply Below.drew) | (with_reducible refine below_set ?_ (by dsimp only; omega) _) | (with_reducible refine below_trans ?_ (by assumption)))); have ca1 := zA.cell (j := 1) rfl; have ca2 := zA.cell (j := 2) rfl; have ca3 := zA.cell (j := 3) rfl; have zAl := zA.lt; (first | (have kk := (blk_alloc _ [.int .i64 0, .slice none 0 0, .slice none 0 0, .slice none 0 0] 42).below hbA) | (have kk := (blk_alloc_drew _ [.int .i64 0, .slice none 0 0, .slice none 0 0, .slice none 0 0] 42).below hbA) | (have kk := kk.below hbA) | skip); (try simp only [size_drew] at kk); (first | (have kc0 := kk.cell (j := 0) rfl; have kc1 := kk.cell (j := 1) rfl; have kc2 := kk.cell (j := 2) rfl; have kc3 := kk.cell (j := 3) rfl; have kf0 := kk.frozen 0; have kf1 := kk.frozen 1; have kf2 := kk.frozen 2; have kf3 := kk.frozen 3) | skip)) | (go_at_call 19; (first | have hgB := kk.lt | skip); refine (HC.out kn _ _ _ _ _ _ _ (m1.below (by repeat (first | (with_reducible assumption) | (with_reducible exact Below.refl _ _) | (with_reducible apply below_alloc) | (with_reducible apply below_drewN) | (with_reducible apply Below.drew) | (with_reducible refine below_set ?_ (by dsimp only; omega) _) | (with_reducible refine below_trans ?_ (by assumption))))) (m2.below (by repeat (first | (with_reducible assumption) | (with_reducible exact Below.refl _ _) | (with_reducible apply below_alloc) | (with_reducible apply below_drewN) | (with_reducible apply Below.drew) | (with_reducible refine below_set ?_ (by dsimp only; omega) _) | (with_reducible refine below_trans ?_ (by assumption))))) (m3.below (by repeat (first | (with_reducible assumption) | (with_reducible exact Below.refl _ _) | (with_reducible apply below_alloc) | (with_reducible apply below_drewN) | (with_reducible apply Below.drew) | (with_reducible refine below_set ?_ (by dsimp only; omega) _) | (with_reducible refine below_trans ?_ (by assumption)))))).mono ?_; rintro e wS ⟨S1, s1, S2, s2, S3, s3, u1, u2, u3, rfl, hS, hbS⟩; (first | (have kk := (blk_alloc _ [.int .i64 0, .slice none 0 0, .slice none 0 0, .slice none 0 0] 42).below hbS) | (have kk := (blk_alloc_drew _ [.int .i64 0, .slice none 0 0, .slice none 0 0, .slice none 0 0] 42).below hbS) | (have kk := kk.below hbS) | skip); (try simp only [size_drew] at kk); (first | (have kc0 := kk.cell (j := 0) rfl; have kc1 := kk.cell (j := 1) rfl; have kc2 := kk.cell (j := 2) rfl; have kc3 := kk.cell (j := 3) rfl; have kf0 := kk.frozen 0; have kf1 := kk.frozen 1; have kf2 := kk.frozen 2; have kf3 := kk.frozen 3) | skip)))
    all_goals (go_wp2_with fail)
    all_goals (go_meet)
    all_goals
      refine ⟨kn, by omega, ?_⟩
      first
        | (with_reducible refine ansR_late hS ?_)
          exact (show Below W6.heap.size W6 wS by repeat (first | (with_reducible assumption) | (with_reducible exact Below.refl _ _) | (with_reducible apply below_alloc) | (with_reducible apply below_drewN) | (with_reducible apply Below.drew) | (with_reducible refine below_set ?_ (by dsimp only; omega) _) | (with_reducible refine below_trans ?_ (by assumption))))
        | (with_reducible refine ansR_early kk hS ?_ ?_ ?_)
          · first | exact hgB | (simp only [size_drew, Deep.nblk_alloc]; omega)
          · first | (with_reducible exact Nat.le_refl _) | (with_reducible exact (show Below W6.heap.size W6 wA by repeat (first | (with_reducible assumption) | (with_reducible exact Below.refl _ _) | (with_reducible apply below_alloc) | (with_reducible apply below_drewN) | (with_reducible apply Below.drew) | (with_reducible refine below_set ?_ (by dsimp only; omega) _) | (with_reducible refine below_trans ?_ (by assumption)))).size)
          · exact (show Below W6.heap.size W6 wS by repeat (first | (with_reducible assumption) | (with_reducible exact Below.refl _ _) | (with_reducible apply below_alloc) | (with_reducible apply below_drewN) | (with_reducible apply Below.drew) | (with_reducible refine below_set ?_ (by dsimp only; omega) _) | (with_reducible refine below_trans ?_ (by assumption))))
  obtain ⟨k1, hk1, g6, C1, d1, C2, d2, C3, d3, rfl, x6, n1, n2, n3, hg6, b67⟩ := hcut
  obtain ⟨W7, hW7⟩ : ∃ W, W = wc := ⟨_, rfl⟩
  subst hW7
  obtain ⟨-, -, -, -, -, E6, E7, E8, E9, -, -⟩ := HF.out k1 hk1
  generalize atX crashX X k1 = C at x6 n1 n2 n3 E6 E7 E8 E9
  rw [E6] at x6
  have HB := Lib.hid (fun (W : World) => iBeatAt_c C.Cluster 0 C1 d1 C2 d2 C3 d3 W)
  have HE2 := Lib.hid (iEvenCluster_c C.Cluster)
  rw [E7] at HE2
  generalize atX beatX C.Cluster 0 = Q at HB E8 E9
  have H9 := Lib.hid E9
  clear E9
  clear E6 E7 HC zl y_0 y_1 y_2 y_3
  have bw7 := below_trans bw6 b67
  replace m1 := m1.below b67
  replace m2 := m2.below b67
  replace m3 := m3.below b67
  replace z := z.below b67
  replace l := l.below b67
  clear b67 bw6 hrb hg6
  have y_0 := x6.cell (j := 0) rfl
  have y_1 := x6.cell (j := 1) rfl
  have y_2 := x6.cell (j := 2) rfl
  have y_3 := x6.cell (j := 3) rfl
  go_wp2_with fail
  refine (HB.out W7 n1 n2 n3).mono ?_
  rintro e w8 ⟨Q1, q1, Q2, q2, Q3, q3, h1', h2', h3', rfl, -, hb8⟩
  rw [E8]
  go_upto_region 10 with fail
  refine at_world (fun W => Blk W w8.heap.size 42 [.int .i64 0, .slice Q1 Q.Cluster.Nodes.length q1, .slice Q2 Q.Cluster.Mails.length q2, .slice Q3 Q.Cluster.Sealed.length q3] ∧ Below w8.heap.size w8 W) ⟨blk_alloc w8 _ _, below_alloc (Below.refl _ _) _⟩ ?_
  rintro W9 ⟨x7, b9⟩
  obtain ⟨g7, hg7⟩ : ∃ g, g = w8.heap.size := ⟨_, rfl⟩
  rw [← hg7] at x7 ⊢
  have b79 := below_trans hb8 b9
  have bw9 := below_trans bw7 b79
  replace m1 := m1.below b79
  replace m2 := m2.below b79
  replace m3 := m3.below b79
  replace n1 := n1.below b79
  replace n2 := n2.below b79
  replace n3 := n3.below b79
  replace z := z.below b79
  replace l := l.below b79
  replace x6 := x6.below b79
  clear hb8 b9 b79 bw7 hg7 y_0 y_1 y_2 y_3 HB E8
  have hrb := hr.below bw9
  have y_0 := z.cell (j := 0) rfl
  have y_1 := z.cell (j := 1) rfl
  have y_2 := z.cell (j := 2) rfl
  have y_3 := z.cell (j := 3) rfl
  have zl := z.lt
  go_cut [8] (fun sv W' => ∃ k : Nat, k < s ∧ AnsR (atX timeoutX X k) W9 sv W')
  case first =>
    go_region_with (first | (go_at_call 20; refine (lwAt_c code A c 1 s _ (hrb.below (by repeat (first | (with_reducible assumption) | (with_reducible exact Below.refl _ _) | (with_reducible apply below_alloc) | (with_reducible apply below_drewN) | (with_reducible apply Below.drew) | (with_reducible refine below_set ?_ (by dsimp only; omega) _) | (with_reducible refine below_trans ?_ (by assumption))))) (by omega) (by omega) (by omega)).mono ?_; rintro e wA ⟨kv, rfl, hk0, hk1, hbA⟩; obtain ⟨kn, rfl⟩ := Int.eq_ofNat_of_zero_le hk0; have zA := z.below (show Below W9.heap.size W9 wA by repeat (first | (with_reducible assumption) | (with_reducible exact Below.refl _ _) | (with_reducible apply below_alloc) | (with_reducible apply below_drewN) | (with_reducible apply Below.drew) | (with_reducible refine below_set ?_ (by dsimp only; omega) _) | (with_reducible refine below_trans ?_ (by assumption)))); have ca1 := zA.cell (j := 1) rfl; have ca2 := zA.cell (j := 2) rfl; have ca3 := zA.cell (j := 3) rfl; have zAl := zA.lt; (first | (have kk := (blk_alloc _ [.int .i64 0, .slice none 0 0, .slice none 0 0, .slice none 0 0] 42).below hbA) | (have kk := (blk_alloc_drew _ [.int .i64 0, .slice none 0 0, .slice none 0 0, .slice none 0 0] 42).below hbA) | (have kk := kk.below hbA) | skip); (try simp only [size_drew] at kk); (first | (have kc0 := kk.cell (j := 0) rfl; have kc1 := kk.cell (j := 1) rfl; have kc2 := kk.cell (j := 2) rfl; have kc3 := kk.cell (j := 3) rfl; have kf0 := kk.frozen 0; have kf1 := kk.frozen 1; have kf2 := kk.frozen 2; have kf3 := kk.frozen 3) | skip)) | (go_at_call 22; (first | have hgB := kk.lt | skip); refine (HT.out kn _ _ _ _ _ _ _ (m1.below (by repeat (first | (with_reducible assumption) | (with_reducible exact Below.refl _ _) | (with_reducible apply below_alloc) | (with_reducible apply below_drewN) | (with_reducible apply Below.drew) | (with_reducible refine below_set ?_ (by dsimp only; omega) _) | (with_reducible refine below_trans ?_ (by assumption))))) (m2.below (by repeat (first | (with_reducible assumption) | (with_reducible exact Below.refl _ _) | (with_reducible apply below_alloc) | (with_reducible apply below_drewN) | (with_reducible apply Below.drew) | (with_reducible refine below_set ?_ (by dsimp only; omega) _) | (with_reducible refine below_trans ?_ (by assumption))))) (m3.below (by repeat (first | (with_reducible assumption) | (with_reducible exact Below.refl _ _) | (with_reducible apply below_alloc) | (with_reducible apply below_drewN) | (with_reducible apply Below.drew) | (with_reducible refine below_set ?_ (by dsimp only; omega) _) | (with_reducible refine below_trans ?_ (by assumption)))))).mono ?_; rintro e wS ⟨S1, s1, S2, s2, S3, s3, u1, u2, u3, rfl, hS, hbS⟩; (first | (have kk := (blk_alloc _ [.int .i64 0, .slice none 0 0, .slice none 0 0, .slice none 0 0] 42).below hbS) | (have kk := (blk_alloc_drew _ [.int .i64 0, .slice none 0 0, .slice none 0 0, .slice none 0 0] 42).below hbS) | (have kk := kk.below hbS) | skip); (try simp only [size_drew] at kk); (first | (have kc0 := kk.cell (j := 0) rfl; have kc1 := kk.cell (j := 1) rfl; have kc2 := kk.cell (j := 2) rfl; have kc3 := kk.cell (j := 3) rfl; have kf0 := kk.frozen 0; have kf1 := kk.frozen 1; have kf2 := kk.frozen 2; have kf3 := kk.frozen 3) | skip)))
    all_goals (go_wp2_with fail)
    all_goals (go_meet)
    all_goals
      refine ⟨kn, by omega, ?_⟩
      first
        | (with_reducible refine ansR_late hS ?_)
          exact (show Below W9.heap.size W9 wS by repeat (first | (with_reducible assumption) | (with_reducible exact Below.refl _ _) | (with_reducible apply below_alloc) | (with_reducible apply below_drewN) | (with_reducible apply Below.drew) | (with_reducible refine below_set ?_ (by dsimp only; omega) _) | (with_reducible refine below_trans ?_ (by assumption))))
        | (with_reducible refine ansR_early kk hS ?_ ?_ ?_)
          · first | exact hgB | (simp only [size_drew, Deep.nblk_alloc]; omega)
          · first | (with_reducible exact Nat.le_refl _) | (with_reducible exact (show Below W9.heap.size W9 wA by repeat (first | (with_reducible assumption) | (with_reducible exact Below.refl _ _) | (with_reducible apply below_alloc) | (with_reducible apply below_drewN) | (with_reducible apply Below.drew) | (with_reducible refine below_set ?_ (by dsimp only; omega) _) | (with_reducible refine below_trans ?_ (by assumption)))).size)
          · exact (show Below W9.heap.size W9 wS by repeat (first | (with_reducible assumption) | (with_reducible exact Below.refl _ _) | (with_reducible apply below_alloc) | (with_reducible apply below_drewN) | (with_reducible apply Below.drew) | (with_reducible refine below_set ?_ (by dsimp only; omega) _) | (with_reducible refine below_trans ?_ (by assumption))))
  obtain ⟨k2, hk2, g8, T1, t1, T2, t2, T3, t3, rfl, x8, o1, o2, o3, hg8, b910⟩ := hcut
  obtain ⟨W10, hW10⟩ : ∃ W, W = wc := ⟨_, rfl⟩
  subst hW10
  obtain ⟨-, -, -, -, -, -, -, -, -, E10, E11⟩ := HF.out k2 hk2
  generalize atX timeoutX X k2 = T at x8 o1 o2 o3 E10 E11
  rw [E10] at x8
  have HE3 := Lib.hid (iEvenCluster_c T.Cluster)
  rw [E11] at HE3
  clear E10 E11 HT zl y_0 y_1 y_2 y_3 hrb
  have bw10 := below_trans bw9 b910
  replace m1 := m1.below b910
  replace m2 := m2.below b910
  replace m3 := m3.below b910
  replace n1 := n1.below b910
  replace n2 := n2.below b910
  replace n3 := n3.below b910
  replace z := z.below b910
  replace l := l.below b910
  replace x6 := x6.below b910
  replace x7 := x7.below b910
  clear b910 bw9 hg8
  have l_0 := l.cell (j := 0) rfl
  have l_1 := l.cell (j := 1) rfl
  have y_0 := z.cell (j := 0) rfl
  have y_1 := z.cell (j := 1) rfl
  have y_2 := z.cell (j := 2) rfl
  have y_3 := z.cell (j := 3) rfl
  have he1 : ((X.Nodes.length : Int) == (s : Int)) = true := beq_iff_eq.2 (by have := HLN.out; omega)
  have he2 : ((Q.Cluster.Mails.length : Int) == (s : Int) - 1) = true := beq_iff_eq.2 (by have := H9.out; omega)
  go_wp2_with fail
  refine (HE.out _ _ _ _ _ _ W10 m1 m2 m3).mono ?_
  rintro e w11 ⟨rfl, hb11⟩
  clear y_0 y_1 y_2 y_3
  have z11 := z.below hb11
  have y_0 := z11.cell (j := 0) rfl
  have y_1 := z11.cell (j := 1) rfl
  have y_2 := z11.cell (j := 2) rfl
  have y_3 := z11.cell (j := 3) rfl
  go_wp2_with fail
  refine (HSf.out _ _ _ _ _ _ w11 (m1.below hb11) (m2.below hb11) (m3.below hb11)).mono ?_
  rintro e w12 ⟨rfl, hb12⟩
  have b12 := below_trans hb11 hb12
  clear y_0 y_1 y_2 y_3 z11 hb11 hb12
  have z12 := z.below b12
  have x12 := x6.below b12
  have y_0 := z12.cell (j := 0) rfl
  have y_1 := z12.cell (j := 1) rfl
  have y_2 := z12.cell (j := 2) rfl
  have y_3 := z12.cell (j := 3) rfl
  have u_0 := x12.cell (j := 0) rfl
  have u_1 := x12.cell (j := 1) rfl
  have u_2 := x12.cell (j := 2) rfl
  have u_3 := x12.cell (j := 3) rfl
  go_wp2_with fail
  refine (HE2.out _ _ _ _ _ _ w12 (n1.below b12) (n2.below b12) (n3.below b12)).mono ?_
  rintro e w13 ⟨rfl, hb13⟩
  have b13 := below_trans b12 hb13
  clear y_0 y_1 y_2 y_3 u_0 u_1 u_2 u_3 z12 x12 hb13 b12
  have x13 := x7.below b13
  have v13 := x8.below b13
  have y_0 := x13.cell (j := 0) rfl
  have y_1 := x13.cell (j := 1) rfl
  have y_2 := x13.cell (j := 2) rfl
  have y_3 := x13.cell (j := 3) rfl
  have u_0 := v13.cell (j := 0) rfl
  have u_1 := v13.cell (j := 1) rfl
  have u_2 := v13.cell (j := 2) rfl
  have u_3 := v13.cell (j := 3) rfl
  go_wp2_with fail
  refine (HE3.out _ _ _ _ _ _ w13 (o1.below b13) (o2.below b13) (o3.below b13)).mono ?_
  rintro e w14 ⟨rfl, hb14⟩
  have bw := below_trans bw10 (below_trans b13 hb14)
  by_cases hs1 : s = 1
  · have e1 : ((s : Int) == 1) = true := beq_iff_eq.2 (by omega)
    have e2 : (s == 1) = true := beq_iff_eq.2 hs1
    rw [e2]
    go_wp2_with fail
    go_ret
    exact ⟨rfl, bw⟩
  · have e1 : ((s : Int) == 1) = false := beq_eq_false_iff_ne.2 (by omega)
    have e2 : (s == 1) = false := beq_eq_false_iff_ne.2 hs1
    rw [e2]
    go_wp2_with fail
    go_ret
    exact ⟨rfl, bw⟩
end Go.Proofs.Ytnbenhkbcodlfaa
