/- Parts of a proof, printed by a program of mine out of my texts: RpCou. -/
import Derived.Deep.CutRange
import Derived.Test.YthfmkkkdjgkaoaaGreatDoorMH
import Derived.Test.YthfmkkkdjgkaoaaGreatDoorMI
set_option linter.unusedSimpArgs false
set_option linter.unusedVariables false
namespace Go.Proofs.YthfmkkkdjgkaoaaGreatDoor
open Go.RowKit
def cntL (f : List Bn) (l : List Oc) (i : Nat) : Int := ((f.filter fun x => markO l (bid x) i).length : Int)
theorem cntL_snoc (f : List Bn) (l : List Oc) (x : Bn) (i : Nat) : cntL (f ++ [x]) l i = cntL f l i + if markO l (bid x) i then 1 else 0 := by
  unfold cntL
  rw [List.filter_append]
  cases h : markO l (bid x) i <;> simp [h]
theorem cntL_le (f : List Bn) (l : List Oc) (i : Nat) : 0 ≤ cntL f l i ∧ cntL f l i ≤ f.length := by
  unfold cntL
  have := List.length_filter_le (fun x => markO l (bid x) i) f
  omega
theorem cntL_O (b : List Bn) (l : List Oc) (prio : Int) (i : Nat) : cntL (b.filter (inP prio)) l i = cntO b l prio i := by
  unfold cntL cntO
  rw [List.filter_filter]
  congr 3
  funext x
  rw [Bool.and_comm]
def outI (f : Nat → Int) : Array Value := #[.int .i64 (f 0), .int .i64 (f 1), .int .i64 (f 2), .int .i64 (f 3), .int .i64 (f 4), .int .i64 (f 5)]
theorem outI_at (f : Nat → Int) {p : Nat} (hp : p < 6) : (outI f)[p]? = some (.int .i64 (f p)) := by
  match p, hp with
  | 0, _ => rfl
  | 1, _ => rfl
  | 2, _ => rfl
  | 3, _ => rfl
  | 4, _ => rfl
  | 5, _ => rfl
theorem outI_set (f : Nat → Int) {p : Nat} (hp : p < 6) (v : Int) : (outI f).setIfInBounds p (.int .i64 v) = outI (fun i => if i = p then v else f i) := by
  match p, hp with
  | 0, _ => rfl
  | 1, _ => rfl
  | 2, _ => rfl
  | 3, _ => rfl
  | 4, _ => rfl
  | 5, _ => rfl
def mk6 (m0 m1 m2 m3 m4 m5 : Bool) : Nat → Bool
  | 0 => m0
  | 1 => m1
  | 2 => m2
  | 3 => m3
  | 4 => m4
  | 5 => m5
  | _ => false
theorem ix6_0 (m0 m1 m2 m3 m4 m5 : Bool) (w : World) : Sem.run Tryz.prog (Instr.index 120 (.agg #[.bool m0, .bool m1, .bool m2, .bool m3, .bool m4, .bool m5]) (.int .i64 ((0 : Nat) : Int))) w = .ok (.bool m0) w := by kernel_rfl
theorem ix6_1 (m0 m1 m2 m3 m4 m5 : Bool) (w : World) : Sem.run Tryz.prog (Instr.index 120 (.agg #[.bool m0, .bool m1, .bool m2, .bool m3, .bool m4, .bool m5]) (.int .i64 ((1 : Nat) : Int))) w = .ok (.bool m1) w := by kernel_rfl
theorem ix6_2 (m0 m1 m2 m3 m4 m5 : Bool) (w : World) : Sem.run Tryz.prog (Instr.index 120 (.agg #[.bool m0, .bool m1, .bool m2, .bool m3, .bool m4, .bool m5]) (.int .i64 ((2 : Nat) : Int))) w = .ok (.bool m2) w := by kernel_rfl
theorem ix6_3 (m0 m1 m2 m3 m4 m5 : Bool) (w : World) : Sem.run Tryz.prog (Instr.index 120 (.agg #[.bool m0, .bool m1, .bool m2, .bool m3, .bool m4, .bool m5]) (.int .i64 ((3 : Nat) : Int))) w = .ok (.bool m3) w := by kernel_rfl
theorem ix6_4 (m0 m1 m2 m3 m4 m5 : Bool) (w : World) : Sem.run Tryz.prog (Instr.index 120 (.agg #[.bool m0, .bool m1, .bool m2, .bool m3, .bool m4, .bool m5]) (.int .i64 ((4 : Nat) : Int))) w = .ok (.bool m4) w := by kernel_rfl
theorem ix6_5 (m0 m1 m2 m3 m4 m5 : Bool) (w : World) : Sem.run Tryz.prog (Instr.index 120 (.agg #[.bool m0, .bool m1, .bool m2, .bool m3, .bool m4, .bool m5]) (.int .i64 ((5 : Nat) : Int))) w = .ok (.bool m5) w := by kernel_rfl
theorem run_ix6 (m0 m1 m2 m3 m4 m5 : Bool) {p : Nat} (hp : p < 6) (w : World) : Sem.run Tryz.prog (Instr.index 120 (.agg #[.bool m0, .bool m1, .bool m2, .bool m3, .bool m4, .bool m5]) (.int .i64 (p : Int))) w = .ok (.bool (mk6 m0 m1 m2 m3 m4 m5 p)) w := by
  match p, hp with
  | 0, _ => exact ix6_0 ..
  | 1, _ => exact ix6_1 ..
  | 2, _ => exact ix6_2 ..
  | 3, _ => exact ix6_3 ..
  | 4, _ => exact ix6_4 ..
  | 5, _ => exact ix6_5 ..
theorem owns_setOther {w : World} {base : Nat} {e : TypeId} {k : Nat} {v : Value} {n : Nat} {xs : List Value} (h : w.ownsRow base e k v n xs) {p : Addr} (hp : p.block < base) (u : Value) : (w.setCell p u).ownsRow base e k v n xs := by
  obtain ⟨h1, h2⟩ := h
  refine ⟨h1, ?_⟩
  rcases h2 with h2 | ⟨g, cap, cur, h3, h4, h5, h6⟩
  · exact .inl h2
  · exact .inr ⟨g, cap, cur, h3, h4, by rw [Below.heap_setCell w p u g (by omega)]; exact h5, h6⟩
theorem KindsAt.setOther {w : World} {m : Nat} {l : List Oc} (h : KindsAt w m l) {p : Addr} (hp : m ≠ p.block) (u : Value) : KindsAt (w.setCell p u) m l := by
  obtain ⟨ks, h1, h2, h3⟩ := h
  exact ⟨ks, h1, h2, h3.kept (Below.heap_setCell w p u m hp)⟩
set_option maxRecDepth 100000 in
set_option maxHeartbeats 6400000 in
theorem counts_any (ab al : Option Addr) (cb cl : Nat) (b : List Bn) (l : List Oc) (prio : Int) (hlb : b.length ≤ 1000) (hk : ∀ x ∈ l, 0 ≤ x.ki ∧ x.ki < 16) (w : World) (hb : SRow bn 9 w ab cb b) (hl : SRow oc 7 w al cl l) :
    Calls Tryz.prog 39 #[.agg #[.slice ab b.length cb, .slice al l.length cl], .int .i64 prio] w fun e w' => e = .returned (.agg (outI (cntO b l prio))) ∧ Below w.heap.size w w' := by
  have gk : ∀ W, Below w.heap.size w W → Calls Tryz.prog 63 #[.agg #[.slice ab b.length cb, .slice al l.length cl]] W fun e w' => ∃ m, e = .returned (.map (some m)) ∧ KindsAt w' m l ∧ W.heap.size ≤ m ∧ Below W.heap.size W w' := fun W hB => kinds_any _ al cl l hk W (hl.below hB)
  have gw : ∀ W, Below w.heap.size w W → Calls Tryz.prog 64 #[.agg #[.slice ab b.length cb, .slice al l.length cl], .int .i64 prio] W (RowB W.heap.size (b.filter (inP prio)) W) := fun W hB => with_any ab cb b _ prio (by omega) W (hb.below hB)
  have GK := Lib.hid gk
  have GW := Lib.hid gw
  have e6 : outI (cntO b l prio) = outI (cntL (b.filter (inP prio)) l) := by
    congr 1; funext i; rw [cntL_O]
  rw [e6]
  have hfl : (b.filter (inP prio)).length ≤ 1000 := Nat.le_trans (List.length_filter_le _ _) hlb
  obtain ⟨f, hf⟩ : ∃ f, b.filter (inP prio) = f := ⟨_, rfl⟩
  rw [hf] at GW hfl ⊢
  clear gk gw hb hl hk e6 hf
  go_enter Tryz.func39, Tryz.ntmps39
  go_upto_region 3 with (go_at_call 63; (with_reducible refine (GK.out _ (by (repeat (first | (with_reducible assumption) | (with_reducible exact Below.refl _ _) | (with_reducible refine beld_drew ?_) | ((with_reducible refine bset' ?_ ?_); (first | (focus (dsimp only; assumption)) | (focus (simp; done)) | (focus (dsimp only; omega)))) | (with_reducible refine belt_alloc ?_) | ((with_reducible refine zeroed_below' ?_ ?_); (first | (focus (simp; done)) | (focus (dsimp only; omega)))) | (with_reducible refine bt ?_ (by assumption)))))).mono ?_); rintro e w2 ⟨m, rfl, hm2, hml, h2⟩; (have kr : blk w2 w.heap.size = some #[.slice ab b.length cb, .slice al l.length cl] := (by (apply blk_to; (focus (repeat (first | (with_reducible assumption) | (with_reducible apply blk_drew) | (with_reducible apply blk_set) | ((with_reducible apply blk_other'); (first | (focus (dsimp only; assumption)) | (focus (simp; done)) | (focus (dsimp only; omega)))) | ((with_reducible apply blk_alloc_new); (first | (with_reducible rfl) | (focus (simp; done)) | (focus (simp; omega)))) | (with_reducible apply blk_alloc) | ((with_reducible apply blk_below); (with_reducible assumption))))); rfl))); (have kz : blk w2 (w.heap.size + 1) = some #[.int .i64 0, .int .i64 0, .int .i64 0, .int .i64 0, .int .i64 0, .int .i64 0] := (by (apply blk_to; (focus (repeat (first | (with_reducible assumption) | (with_reducible apply blk_drew) | (with_reducible apply blk_set) | ((with_reducible apply blk_other'); (first | (focus (dsimp only; assumption)) | (focus (simp; done)) | (focus (dsimp only; omega)))) | ((with_reducible apply blk_alloc_new); (first | (with_reducible rfl) | (focus (simp; done)) | (focus (simp; omega)))) | (with_reducible apply blk_alloc) | ((with_reducible apply blk_below); (with_reducible assumption))))); rfl))); (have ko : blk w2 (w.heap.size + 2) = some #[.int .i64 0, .int .i64 0, .int .i64 0, .int .i64 0, .int .i64 0, .int .i64 0] := (by (apply blk_to; (focus (repeat (first | (with_reducible assumption) | (with_reducible apply blk_drew) | (with_reducible apply blk_set) | ((with_reducible apply blk_other'); (first | (focus (dsimp only; assumption)) | (focus (simp; done)) | (focus (dsimp only; omega)))) | ((with_reducible apply blk_alloc_new); (first | (with_reducible rfl) | (focus (simp; done)) | (focus (simp; omega)))) | (with_reducible apply blk_alloc) | ((with_reducible apply blk_below); (with_reducible assumption))))); rfl))); (have B2 : Below w.heap.size w w2 := (by (repeat (first | (with_reducible assumption) | (with_reducible exact Below.refl _ _) | (with_reducible refine beld_drew ?_) | ((with_reducible refine bset' ?_ ?_); (first | (focus (dsimp only; assumption)) | (focus (simp; done)) | (focus (dsimp only; omega)))) | (with_reducible refine belt_alloc ?_) | ((with_reducible refine zeroed_below' ?_ ?_); (first | (focus (simp; done)) | (focus (dsimp only; omega)))) | (with_reducible refine bt ?_ (by assumption)))))); (have HM2 := Lib.hid hm2); (have hs2 := h2.size); simp at hml hs2; clear h2 hm2; (have nr := kn kr))
  have ko' : blk w2 (w.heap.size + 2) = some (outI (cntL (f.take 0) l)) := ko
  clear ko
  go_wp2_with (go_at_call 64; (with_reducible refine (GW.out _ B2).mono ?_); rintro e w3 ⟨v3, rfl, ho3, h3⟩; (obtain ⟨a3, c3, rfl, hS3, _⟩ := srow_of_owns bn_len ho3); (have HO3 := Lib.hid ho3); (have HS3 := Lib.hid hS3); (have hcap := hS3.1); (have hmax := hS3.2.1); clear ho3 hS3)
  unfold maxLen at hmax
  have kz3 := blk_below h3 kz
  have ko3 := blk_below h3 ko'
  have B3 : Below w.heap.size w w3 := bt B2 h3
  have HM3 := Lib.hid (HM2.out.below h3)
  obtain ⟨T, hT⟩ : ∃ T, T = w2.heap.size := ⟨_, rfl⟩
  rw [← hT] at HO3 hs2
  have HO3' := HO3
  clear kr nr kz ko' B2 HM2 h3 GK GW hT
  obtain ⟨N, hN⟩ : ∃ N, N = f.length := ⟨_, rfl⟩
  have HN := Lib.hid hN
  rw [← hN] at hcap hfl ⊢
  clear hN
  go_loopw [19] (fun s19 wr => ∃ j : Nat, s19 = .int .i64 j ∧ j ≤ N ∧ Below w.heap.size w wr ∧ Hid (blk wr (w.heap.size + 2) = some (outI (cntL (f.take j) l)) ∧ blk wr (w.heap.size + 1) = some #[.int .i64 0, .int .i64 0, .int .i64 0, .int .i64 0, .int .i64 0, .int .i64 0] ∧ KindsAt wr m l ∧ wr.ownsRow T 54 9 (.slice a3 f.length c3) f.length (rowC bn f))) (fun s19 _ => N - (intOf s19).toNat)
  case atStart => exact ⟨0, rfl, Nat.zero_le _, B3, Lib.hid ⟨ko3, kz3, HM3.out, HO3.out⟩⟩
  case round =>
    clear ko3 kz3 HM3 HO3 HO3' B3
    obtain ⟨j, rfl, hj, hB, HQ⟩ := hrel
    by_cases hlt : j < N
    · have hltz : (j : Int) < (N : Int) := by omega
      have hjl : j < f.length := by have := HN.out; omega
      obtain ⟨g, c3', e3, hTg, hgl, _, _, hr0, _⟩ := owns_cells bn_len HQ.out.2.2.2 (by omega)
      simp only [Value.slice.injEq] at e3
      obtain ⟨rfl, _, rfl⟩ := e3
      obtain ⟨x, hx⟩ : ∃ x, x = f[j] := ⟨_, rfl⟩
      have hr := hr0 j hjl
      rw [← hx] at hr
      have HX := Lib.hid hx
      clear hr0 hx
      go_upto_region 5 with fail
      refine wp_region_elem0 54 (.tmp 21) g (j * 9) (bn x) #[.int .i64 0, .int .u64 0, .int .i64 0, .int .i64 0, .int .i64 0, .int .i64 0, .int .i64 0, .int .i64 0, .string ⟨#[]⟩] hr rfl (by go_simp) rfl rfl rfl _ Tryz.underlying54 rfl (by kernel_rfl) rfl (by kernel_rfl) rfl _ _ rfl rfl rfl rfl (bn_one x) ?_
      intro c0 w1 hc0 kb hB1
      conv => arg 4; simp [Act.put]
      have hB2 : Below w.heap.size w w1 := bt hB hB1
      have kb : blk w1 c0 = some #[.int .i64 x.no, .int .u64 x.sq, .int .i64 x.of, .int .i64 x.de, .int .i64 x.pr, .int .i64 x.bo, .int .i64 x.li, .int .i64 x.to, .string x.da] := kb
      have HQ1 := Lib.hid (And.intro (blk_below hB1 HQ.out.1) (And.intro (blk_below hB1 HQ.out.2.1) (And.intro (HQ.out.2.2.1.below hB1) (owns_belowS HQ.out.2.2.2 hB1))))
      have hc0l : w.heap.size + 3 ≤ c0 := by have := blk_lt HQ.out.1; have := hB.size; omega
      clear hr hc0 hB1 hgl hB HQ
      go_upto_region 6 with fail
      refine wp_region_tail0 4 ?_
      intro W0 hE hN
      have q1 : blk W0 c0 = some #[.int .i64 x.no, .int .u64 x.sq, .int .i64 x.of, .int .i64 x.de, .int .i64 x.pr, .int .i64 x.bo, .int .i64 x.li, .int .i64 x.to, .string x.da] := (by rw [hE.out]; exact kb)
      have qB : Below w.heap.size w W0 := (by rw [hE.out]; exact hB2)
      have qq := HQ1
      rw [← hE.out] at qq
      have n1 := calm_kn q1
      have lk : ∀ X : Class (Calm W0), Sem.run Tryz.prog (Instr.lookup 114 (.map (some m)) (.agg #[.int .i64 x.no, .int .u64 x.sq, .int .i64 x.of]) false) X.wd = .ok (kvA l (bid x)) X.wd := fun X => (qq.out.2.2.1.below X.ok).look (bid x)
      clear hE kb hB2 HQ1
      simp only [List.take_succ_cons, List.take_zero, List.drop_succ_cons, List.drop_zero]
      repeat (go_big_quiet_step (fail))
      refine wpQuiet_nil ?_
      rintro _ ⟨x', rfl⟩
      have hB2 := bt qB x'.ok
      have HQ2 := Lib.hid (And.intro (blk_below x'.ok qq.out.1) (And.intro (blk_below x'.ok qq.out.2.1) (And.intro (qq.out.2.2.1.below x'.ok) (owns_belowS qq.out.2.2.2 x'.ok))))
      obtain ⟨u, hu⟩ : ∃ u, u = x'.wd := ⟨_, rfl⟩
      rw [← hu] at hB2 HQ2 ⊢
      clear hu x' hN q1 qB n1 lk qq
      refine Go.Great.wpList_allocTo rfl (some 9) rfl (.pointer (some ⟨u.heap.size, 0, none⟩)) (.cells #[.bool false, .bool false, .bool false, .bool false, .bool false, .bool false, .bool false, .bool false, .bool false, .bool false, .bool false, .bool false, .bool false, .bool false, .bool false, .bool false] 117) (by kernel_rfl) ?_
      conv => arg 5; simp [Act.put]
      have e1 : kvA l (bid x) = .agg (kv l (bid x)).toArray := rfl
      rw [e1]
      refine wpList_store_midB 117 (.tmp 9) (.tmp 26) u.heap.size 0 #[.bool false, .bool false, .bool false, .bool false, .bool false, .bool false, .bool false, .bool false, .bool false, .bool false, .bool false, .bool false, .bool false, .bool false, .bool false, .bool false] (kv l (bid x)).toArray (kv l (bid x)).toArray (blk_alloc_new _ _ _ rfl) rfl rfl rfl rfl (by simp [kv_len]) (by rw [List.size_toArray, kv_len]; kernel_rfl) (all_oneCell_toArray (kv_one _ _)) (setMid_all (by simp [kv_len])) ?_
      intro w2 kb3 o3 B3 z3
      conv => arg 5; simp [Act.put]
      have hBu : Below u.heap.size u w2 := B3 _ _ (Nat.le_refl _) ((Below.refl _ _).alloc (Nat.le_refl _) _)
      have hB3 : Below w.heap.size w w2 := bt hB2 hBu
      have HQ3 := Lib.hid (And.intro (blk_below hBu HQ2.out.1) (And.intro (blk_below hBu HQ2.out.2.1) (And.intro (HQ2.out.2.2.1.below hBu) (owns_belowS HQ2.out.2.2.2 hBu))))
      obtain ⟨c1, hc1⟩ : ∃ c, c = u.heap.size := ⟨_, rfl⟩
      rw [← hc1] at kb3 ⊢
      clear hc1 e1 o3 B3 z3 hB2 hBu HQ2
      have cc : ∀ n : Nat, n < 16 → w2.cell? ⟨c1, n, none⟩ = some (.bool (hasO l (n : Int) (bid x))) := fun n hn => by rw [blk_cell kb3, List.getElem?_toArray, kv_at _ _ _ hn]
      have k1 : w2.cell? ⟨c1, 1, none⟩ = some (.bool (hasO l 1 (bid x))) := cc 1 (by decide)
      have k2 : w2.cell? ⟨c1, 2, none⟩ = some (.bool (hasO l 2 (bid x))) := cc 2 (by decide)
      have k3 : w2.cell? ⟨c1, 3, none⟩ = some (.bool (hasO l 3 (bid x))) := cc 3 (by decide)
      have k4 : w2.cell? ⟨c1, 4, none⟩ = some (.bool (hasO l 4 (bid x))) := cc 4 (by decide)
      have k8 : w2.cell? ⟨c1, 8, none⟩ = some (.bool (hasO l 8 (bid x))) := cc 8 (by decide)
      have k9 : w2.cell? ⟨c1, 9, none⟩ = some (.bool (hasO l 9 (bid x))) := cc 9 (by decide)
      have HMK : Hid (∀ p, p < 6 → markO l (bid x) p = mk6 (hasO l 1 (bid x)) (hasO l 2 (bid x) || (hasO l 3 (bid x) || hasO l 4 (bid x))) (hasO l 8 (bid x)) (hasO l 9 (bid x)) (hasO l 1 (bid x) && (!hasO l 8 (bid x) && !hasO l 9 (bid x))) (!hasO l 1 (bid x) && !(hasO l 2 (bid x) || (hasO l 3 (bid x) || hasO l 4 (bid x)))) p) := Lib.hid (fun p hp => by
        match p, hp with
        | 0, _ => rfl
        | 1, _ => rfl
        | 2, _ => rfl
        | 3, _ => rfl
        | 4, _ => rfl
        | 5, _ => rfl)
      clear cc kb3
      obtain ⟨q1, hq1⟩ : ∃ q, hasO l 1 (bid x) = q := ⟨_, rfl⟩
      obtain ⟨q2, hq2⟩ : ∃ q, hasO l 2 (bid x) = q := ⟨_, rfl⟩
      obtain ⟨q3, hq3⟩ : ∃ q, hasO l 3 (bid x) = q := ⟨_, rfl⟩
      obtain ⟨q4, hq4⟩ : ∃ q, hasO l 4 (bid x) = q := ⟨_, rfl⟩
      obtain ⟨q8, hq8⟩ : ∃ q, hasO l 8 (bid x) = q := ⟨_, rfl⟩
      obtain ⟨q9, hq9⟩ : ∃ q, hasO l 9 (bid x) = q := ⟨_, rfl⟩
      rw [hq1] at k1 HMK; rw [hq2] at k2 HMK; rw [hq3] at k3 HMK; rw [hq4] at k4 HMK; rw [hq8] at k8 HMK; rw [hq9] at k9 HMK
      clear hq1 hq2 hq3 hq4 hq8 hq9
      go_upto_region 7 with fail
      go_cut [10] from 27 to 36 (fun s10 wq => s10 = .bool (q2 || (q3 || q4)) ∧ wq = w2)
      case first =>
        cases q2 <;> cases q3 <;> cases q4 <;> (go_wp2; go_meet; case rel => exact ⟨rfl, rfl⟩)
      case rest =>
      obtain ⟨rfl, rfl⟩ := hcut
      obtain ⟨nn, hnn⟩ : ∃ q, (q2 || (q3 || q4)) = q := ⟨_, rfl⟩
      rw [hnn] at HMK ⊢
      clear hnn k2 k3 k4
      go_upto_region 8 with fail
      go_cut [63, 64] from 37 to 62 (fun s63 s64 wq => s63 = .agg #[.bool q1, .bool nn, .bool q8, .bool q9, .bool (q1 && (!q8 && !q9)), .bool (!q1 && !nn)] ∧ s64 = .int .i64 0 ∧ wq = wc)
      case first =>
        cases q1 <;> cases q8 <;> cases q9 <;> cases nn <;> (go_wp2; go_meet; case rel => exact ⟨rfl, rfl, rfl⟩)
      case rest =>
      obtain ⟨rfl, rfl, rfl⟩ := hcut
      obtain ⟨m4, hm4⟩ : ∃ q, (q1 && (!q8 && !q9)) = q := ⟨_, rfl⟩
      obtain ⟨m5, hm5⟩ : ∃ q, (!q1 && !nn) = q := ⟨_, rfl⟩
      rw [hm4, hm5] at HMK
      rw [hm4, hm5]
      clear hm4 hm5 k1 k8 k9
      go_wp2
      go_loopw [64] (fun s64 wr => ∃ p : Nat, s64 = .int .i64 p ∧ p ≤ 6 ∧ Below w.heap.size w wr ∧ Hid (blk wr (w.heap.size + 2) = some (outI (fun i => if i < p then cntL (f.take (j + 1)) l i else cntL (f.take j) l i)) ∧ blk wr (w.heap.size + 1) = some #[.int .i64 0, .int .i64 0, .int .i64 0, .int .i64 0, .int .i64 0, .int .i64 0] ∧ KindsAt wr m l ∧ wr.ownsRow T 54 9 (.slice (some ⟨g, 0, none⟩) f.length c3) f.length (rowC bn f))) (fun s64 _ => 6 - (intOf s64).toNat)
      case atStart => exact ⟨0, rfl, Nat.zero_le _, hB3, HQ3⟩
      case round =>
        clear HQ3 hB3
        obtain ⟨p, rfl, hp6, hB, HQ⟩ := hrel
        by_cases hp : p < 6
        · have hpz : (p : Int) < 6 := by omega
          have hix := fun W => run_ix6 q1 nn q8 q9 m4 m5 hp W
          obtain ⟨q, hq⟩ : ∃ q, mk6 q1 nn q8 q9 m4 m5 p = q := ⟨_, rfl⟩
          rw [hq] at hix
          have hsn : cntL (f.take (j + 1)) l p = cntL (f.take j) l p + if q then 1 else 0 := by
            rw [List.take_succ_eq_append_getElem hjl, cntL_snoc, ← HX.out, HMK.out p hp, hq]
          have hcl := cntL_le (f.take j) l p
          have htl : (f.take j).length ≤ 1000 := by rw [List.length_take]; have := HN.out; omega
          obtain ⟨cv, hcv⟩ : ∃ c, cntL (f.take j) l p = c := ⟨_, rfl⟩
          have HSN := Lib.hid hsn
          rw [hcv] at hcl
          have HCV := Lib.hid hcv
          have b1 : 0 ≤ cv := hcl.1
          have b2 : cv ≤ 1000 := by have := hcl.2; omega
          have kc : wr.cell? ⟨w.heap.size + 1 + 1, p, none⟩ = some (.int .i64 cv) := by
            have := blk_cell HQ.out.1 p
            rw [outI_at _ hp, if_neg (Nat.lt_irrefl p), hcv] at this
            exact this
          have kf : wr.frozen? ⟨w.heap.size + 1 + 1, p, none⟩ = false := blk_frozen HQ.out.1 p
          clear hq hsn hcv hcl htl
          have nxt : ∀ W : World, blk W (w.heap.size + 2) = some (outI (fun i => if i < p then cntL (f.take (j + 1)) l i else if i = p then cntL (f.take (j + 1)) l p else cntL (f.take j) l i)) → blk W (w.heap.size + 2) = some (outI (fun i => if i < p + 1 then cntL (f.take (j + 1)) l i else cntL (f.take j) l i)) := fun W h => by
            rw [h]
            congr 2
            funext i
            by_cases h1 : i < p
            · rw [if_pos h1, if_pos (by omega)]
            · by_cases h2 : i = p
              · subst h2; rw [if_neg h1, if_pos rfl, if_pos (by omega)]
              · rw [if_neg h1, if_neg h2, if_neg (by omega)]
          have NXT := Lib.hid nxt
          clear nxt
          cases q
          · have hE : Hid (blk wr (w.heap.size + 2) = some (outI (fun i => if i < p + 1 then cntL (f.take (j + 1)) l i else cntL (f.take j) l i)) ∧ blk wr (w.heap.size + 1) = some #[.int .i64 0, .int .i64 0, .int .i64 0, .int .i64 0, .int .i64 0, .int .i64 0] ∧ KindsAt wr m l ∧ wr.ownsRow T 54 9 (.slice (some ⟨g, 0, none⟩) f.length c3) f.length (rowC bn f)) := Lib.hid ⟨NXT.out _ (by
              rw [HQ.out.1]
              congr 2
              funext i
              by_cases h1 : i < p
              · rw [if_pos h1, if_pos h1]
              · by_cases h2 : i = p
                · subst h2; rw [if_neg h1, if_neg h1, if_pos rfl, HSN.out, HCV.out]; simp
                · rw [if_neg h1, if_neg h1, if_neg h2]), HQ.out.2⟩
            go_wp2
            go_roundw
            case rel => exact ⟨p + 1, by go_num, by omega, hB, hE⟩
            case measure => simp [intOf]; omega
          · have hE : Hid (blk (wr.setCell ⟨w.heap.size + 1 + 1, p, none⟩ (.int .i64 (cv + 1))) (w.heap.size + 2) = some (outI (fun i => if i < p + 1 then cntL (f.take (j + 1)) l i else cntL (f.take j) l i)) ∧ blk (wr.setCell ⟨w.heap.size + 1 + 1, p, none⟩ (.int .i64 (cv + 1))) (w.heap.size + 1) = some #[.int .i64 0, .int .i64 0, .int .i64 0, .int .i64 0, .int .i64 0, .int .i64 0] ∧ KindsAt (wr.setCell ⟨w.heap.size + 1 + 1, p, none⟩ (.int .i64 (cv + 1))) m l ∧ (wr.setCell ⟨w.heap.size + 1 + 1, p, none⟩ (.int .i64 (cv + 1))).ownsRow T 54 9 (.slice (some ⟨g, 0, none⟩) f.length c3) f.length (rowC bn f)) := Lib.hid ⟨NXT.out _ (by
              have h8 := blk_set (i := p) (v := .int .i64 (cv + 1)) HQ.out.1
              rw [outI_set _ hp] at h8
              refine h8.trans ?_
              congr 2
              funext i
              by_cases h2 : i = p
              · subst h2; rw [if_pos rfl, if_neg (Nat.lt_irrefl i), if_pos rfl, HSN.out, HCV.out]; simp
              · rw [if_neg h2]
                by_cases h1 : i < p
                · rw [if_pos h1, if_pos h1]
                · rw [if_neg h1, if_neg h1, if_neg h2]), blk_other HQ.out.2.1 (by dsimp only; omega), HQ.out.2.2.1.setOther (by dsimp only; omega) _, owns_setOther HQ.out.2.2.2 (by dsimp only; omega) _⟩
            have hB' : Below w.heap.size w (wr.setCell ⟨w.heap.size + 1 + 1, p, none⟩ (.int .i64 (cv + 1))) := hB.setCell (by dsimp only; omega) _
            clear HQ hB
            go_wp2
            go_roundw
            case rel => exact ⟨p + 1, by go_num, by omega, hB', hE⟩
            case measure => simp [intOf]; omega
        · obtain rfl : p = 6 := by omega
          have hE : Hid (blk wr (w.heap.size + 2) = some (outI (cntL (f.take (j + 1)) l)) ∧ blk wr (w.heap.size + 1) = some #[.int .i64 0, .int .i64 0, .int .i64 0, .int .i64 0, .int .i64 0, .int .i64 0] ∧ KindsAt wr m l ∧ wr.ownsRow T 54 9 (.slice (some ⟨g, 0, none⟩) f.length c3) f.length (rowC bn f)) := Lib.hid ⟨HQ.out.1, HQ.out.2⟩
          go_wp2
          go_roundw
          case rel => exact ⟨j + 1, by go_num, by omega, hB, hE⟩
          case measure => simp [intOf]; omega
    · obtain rfl : j = N := by omega
      have ko : blk wr (w.heap.size + 1 + 1) = some (outI (cntL f l)) := by
        have := HQ.out.1
        rwa [HN.out, List.take_length] at this
      have kz := HQ.out.2.1
      have nko := kn ko
      have nkz := kn kz
      unfold outI at nko ko ⊢
      clear HQ
      go_wp2
      refine ret_blk (b := w.heap.size + 1) (c := outI (cntL f l)) (v := .agg (outI (cntL f l))) (by unfold outI; (apply blk_to; (focus (repeat (first | (with_reducible assumption) | (with_reducible apply blk_drew) | (with_reducible apply blk_set) | ((with_reducible apply blk_other'); (first | (focus (dsimp only; assumption)) | (focus (simp; done)) | (focus (dsimp only; omega)))) | ((with_reducible apply blk_alloc_new); (first | (with_reducible rfl) | (focus (simp; done)) | (focus (simp; omega)))) | (with_reducible apply blk_alloc) | ((with_reducible apply blk_below); (with_reducible assumption))))); rfl)) (fun W' hc => by unfold outI at hc ⊢; simp [results, Tryz.results39, go_sem, hc]) rfl ⟨rfl, by (repeat (first | (with_reducible assumption) | (with_reducible exact Below.refl _ _) | (with_reducible refine beld_drew ?_) | ((with_reducible refine bset' ?_ ?_); (first | (focus (dsimp only; assumption)) | (focus (simp; done)) | (focus (dsimp only; omega)))) | (with_reducible refine belt_alloc ?_) | ((with_reducible refine zeroed_below' ?_ ?_); (first | (focus (simp; done)) | (focus (dsimp only; omega)))) | (with_reducible refine bt ?_ (by assumption))))⟩
end Go.Proofs.YthfmkkkdjgkaoaaGreatDoor
