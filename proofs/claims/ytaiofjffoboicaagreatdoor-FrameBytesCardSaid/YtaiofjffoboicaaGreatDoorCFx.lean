/- Parts of a proof, printed by a program of mine out of my texts: FxKey, FxPre. -/
import Derived.Lib.AppendIntMem
import Derived.Lib.ItoaLen
import Derived.Lib.Join
import Derived.OrdersHeld
import Derived.Test.YtaiofjffoboicaaGreatDoorCA
import Derived.Test.YtaiofjffoboicaaGreatDoorCB
import Derived.Test.YtaiofjffoboicaaGreatDoorCEq
import Derived.Test.YtaiofjffoboicaaGreatDoorCFwKit
import Derived.Test.YtaiofjffoboicaaGreatDoorCShelf
set_option linter.unusedSimpArgs false
set_option linter.unusedVariables false
namespace Go.Proofs.YtaiofjffoboicaaGreatDoor
open Go.RowKit Go.Sort
open Go.Lib (decDigits nDigits)
def numB (u : Nat) : ByteArray:=⟨(decDigits u).toArray⟩
theorem numB_size (u : Nat) (h : u < 18446744073709551616) : 1 ≤ (numB u).size ∧ (numB u).size ≤ 20:=by
  have e : (numB u).size = nDigits u:=by show (decDigits u).toArray.size = _;simp [Lib.decDigits_length]
  rw [e]
  by_cases h0 : u = 0
  · subst h0;rw [nDigits];simp
  · have:=Lib.numDigits_eq u (by omega) h
    constructor
    · rw [nDigits];split <;> omega
    · split at this <;> omega
theorem numB_small (u : Nat) (h : u < 10) : numB u = ⟨#[UInt8.ofNat (48 + u)]⟩:=by
  unfold numB;rw [decDigits,dif_pos h]
theorem numB_step (u : Nat) (h : ¬ u < 10) : numB u = numB (u / 10) ++ ⟨#[48 + UInt8.ofNat (u % 10)]⟩:=by
  unfold numB
  rw [decDigits,dif_neg h]
  apply ByteArray.ext
  simp
abbrev tabNm : String := "internal/strconv.uint64pow10"
theorem below_put (w : World) (o : Obj) (dk : Array UInt8) (k : Nat) : RowKit.Below w.heap.size w ((putRow (fun (b : UInt8) => Value.int .u8 (b.toNat : Int)) (w.alloc o) w.heap.size 0 dk).drewN k):=by
  rw [alloc_eq_grow]
  obtain ⟨os',_,e⟩:=putRow_grow_new (fun (b : UInt8) => Value.int .u8 (b.toNat : Int)) w #[o] w.heap.size 0 dk (Nat.le_refl _)
  rw [e]
  exact Lib.below_grow _ w (Nat.le_refl _) k os'
set_option maxRecDepth 100000 in
set_option maxHeartbeats 6400000 in
theorem formatUint_big (u : Nat) (hu0 : ¬ u < 100) (hu64 : u < 18446744073709551616) (w : World) (htab : Lib.TabIs Tryz.prog w tabNm .u64 Lib.pow10Tab) :
    Calls Tryz.prog 53 #[.int .u64 u,.int .i64 10] w fun e w' => e = .returned (.string (numB u)) ∧ RowKit.Below w.heap.size w w':=by
  have hu1 : 1 ≤ u:=by omega
  have hnd20 : nDigits u ≤ 20:=by have:=Lib.numDigits_eq u hu1 hu64;split at this <;> omega
  have hal : Tryz.prog.arrayLen 117 = 24:=by simp [Program.arrayLen,Tryz.underlying117]
  have hsl : ∀ W,(Instr.sliceAt 117 (.pointer (some ⟨w.heap.size,0,none⟩)) none (some (.int .i64 (nDigits u : Int))) none).run Tryz.prog W = .ok (.slice (some ⟨w.heap.size,0,none⟩) (nDigits u) 24) W:=fun W => by
    rw [run_sliceAt_array_h W 117 ⟨w.heap.size,0,none⟩ (by simp [Program.arrayLen,Program.elem,Tryz.underlying117]) .i64 (nDigits u : Int) (by omega) (by rw [hal];omega)]
    go_simp
  have hH0:=Lib.holds_zero0 w 117 (nDigits u) (by omega)
  have hfmt:=Tryz.internal_strconv_formatBase10 w.heap.size 0 24 u (Array.replicate (nDigits u) 0) (w.alloc (.cells Lib.zeros24 117)) hH0 (by rw [Array.size_replicate];exact Lib.lt_pow_nDigits u) hu64 (by rw [Array.size_replicate];omega)
  rw [Array.size_replicate] at hfmt
  have HH0:=Lib.hid hH0
  have Hb:=Lib.hid (fun dk k => below_put w (.cells Lib.zeros24 117) dk k)
  have hlt : ¬ (u : Int) < 100:=by omega
  have hub : (u : Int) ≤ 18446744073709551615:=by omega
  clear hH0 hal
  go_enter Tryz.func53,Tryz.ntmps53
  go_wp2_with (first
    | (go_at_call 75;refine (Tryz.internal_strconv_numDigits u hu1 hu64 _ (Lib.tabIs_alloc htab _)).mono ?_;rintro e w' ⟨rfl,rfl⟩))
  go_at_call 76
  refine hfmt.mono ?_
  rintro e w' ⟨rfl,k,v',dk,rfl,hF⟩
  have hcv : (convert 46 9 (.slice (some ⟨w.heap.size,0,none⟩) (nDigits u) 24)).run Tryz.prog ((putRow (fun (b : UInt8) => Value.int .u8 (b.toNat : Int)) (w.alloc (.cells Lib.zeros24 117)) w.heap.size 0 dk).drewN k) = .ok (.string (numB u)) ((putRow (fun (b : UInt8) => Value.int .u8 (b.toNat : Int)) (w.alloc (.cells Lib.zeros24 117)) w.heap.size 0 dk).drewN k):=by
    have h:=run_convert_bytes_back (P:=Tryz.prog) ((putRow (fun (b : UInt8) => Value.int .u8 (b.toNat : Int)) (w.alloc (.cells Lib.zeros24 117)) w.heap.size 0 dk).drewN k) 46 9 5 ⟨w.heap.size,0,none⟩ 24 (decDigits u) Tryz.underlying46 Tryz.underlying5 Tryz.underlying9 (fun j hj => by
      rw [Lib.row_is_numeral hF j hj,Lib.add_plain,World.cell?_drewN]
      exact cell?_putRow (fun (b : UInt8) => Value.int .u8 (b.toNat : Int)) _ w.heap.size 0 _ dk HH0.out (by rw [hF.size,Array.size_replicate]) j (by rw [hF.size];rw [Lib.decDigits_length] at hj;exact hj))
    rw [Lib.decDigits_length] at h
    exact h
  go_wp2
  go_ret
  exact ⟨rfl,Hb.out dk k⟩
theorem small_dec (u : Nat) (hu : u < 100) (w : World) : Calls Tryz.prog 74 #[.int .i64 (u : Int)] w fun e w' => e = .returned (.string (numB u)) ∧ w = w' :=
  (Tryz.internal_strconv_small u hu w).mono fun e w' ⟨he,hw⟩ => ⟨he,hw.symm⟩
set_option maxRecDepth 100000 in
set_option maxHeartbeats 800000 in
theorem formatUint_any (u : Nat) (hu64 : u < 18446744073709551616) (w : World) (htab : Lib.TabIs Tryz.prog w tabNm .u64 Lib.pow10Tab) :
    Calls Tryz.prog 20 #[.int .u64 u,.int .i64 10] w fun e w' => e = .returned (.string (numB u)) ∧ RowKit.Below w.heap.size w w':=by
  by_cases h : u < 100
  · have Hs:=Lib.hid (small_dec u h)
    obtain ⟨s,hs⟩ : ∃ s,numB u = s:=⟨_,rfl⟩
    rw [hs] at Hs ⊢
    clear hs htab
    go_enter Tryz.func20,Tryz.ntmps20
    go_wp2_with (first|(go_at_call 74;(with_reducible refine (Hs.out _).mono ?_);rintro e wx ⟨rfl,rfl⟩)|go_in)
    go_ret
    exact ⟨rfl,Below.refl _ _⟩
  · have Hs:=Lib.hid (formatUint_big u h hu64 w htab)
    obtain ⟨s,hs⟩ : ∃ s,numB u = s:=⟨_,rfl⟩
    rw [hs] at Hs ⊢
    clear hs htab
    go_enter Tryz.func20,Tryz.ntmps20
    go_wp2_with (go_at_call 53;(with_reducible refine Hs.out.mono ?_);rintro e wx ⟨rfl,hx⟩)
    go_ret
    exact ⟨rfl,hx⟩
theorem itoa_any (u : Nat) (hu : u < 9223372036854775808) (w : World) (htab : Lib.TabIs Tryz.prog w tabNm .u64 Lib.pow10Tab) :
    Calls Tryz.prog 21 #[.int .i64 (u : Int)] w fun e w' => e = .returned (.string (numB u)) ∧ RowKit.Below w.heap.size w w' :=
  (Tryz.strconv_Itoa (u : Int) (by omega) (by omega) w htab).mono fun e w' ⟨he,k,os,hw⟩ => ⟨by rw [he,Lib.itoa_nonneg];rfl,by rw [hw];exact Lib.below_grow _ w (Nat.le_refl _) k os⟩
def Tab (w : World) : Prop:=Lib.TabBelow Tryz.prog w.heap.size w tabNm .u64 Lib.pow10Tab
theorem Tab.at {w w' : World} (h : Tab w) (hb : RowKit.Below w.heap.size w w') : Lib.TabIs Tryz.prog w' tabNm .u64 Lib.pow10Tab:=(Lib.TabBelow.on h hb).here
theorem Tab.on {w w' : World} (h : Tab w) (hb : RowKit.Below w.heap.size w w') : Tab w':=Lib.tabBelow_of_tabIs (h.at hb)
theorem tab_of {w : World} (h : Lib.TabIs Tryz.prog w tabNm .u64 Lib.pow10Tab) : Tab w:=Lib.tabBelow_of_tabIs h
def keyB (no sq of : Int) : ByteArray:=numB no.toNat ++ ⟨#[46]⟩ ++ numB sq.toNat ++ ⟨#[46]⟩ ++ numB of.toNat
def keyC (no sq of : Int) : ByteArray × Int:=if idC no sq of = 0 then (keyB no sq of,0) else (⟨#[]⟩,idC no sq of)
set_option maxRecDepth 100000 in
set_option maxHeartbeats 1600000 in
theorem key_any (no sq of : Int) (hsq : 0 ≤ sq) (w : World) (htab : Tab w) :
    Calls Tryz.prog 23 #[idv no sq of] w fun e w' => e = .returned (.tuple #[.string (keyC no sq of).1,.int .i64 (keyC no sq of).2]) ∧ RowKit.Below w.heap.size w w':=by
  have Hc:=fun w => checkID_any no sq of w
  rcases idC_cases no sq of with ⟨h0,h⟩|⟨h0,h⟩ <;> rw [h0] at Hc <;> replace Hc:=Lib.hid Hc
  · obtain ⟨h1,h2,h3,h4,h5⟩:=h
    rw [show keyC no sq of = (keyB no sq of,0) from if_pos h0]
    obtain ⟨n,rfl⟩:=Int.eq_ofNat_of_zero_le (show 0 ≤ no by omega)
    obtain ⟨s,rfl⟩:=Int.eq_ofNat_of_zero_le hsq
    obtain ⟨o,rfl⟩:=Int.eq_ofNat_of_zero_le h4
    have g1:=fun w ht => itoa_any n (by omega) w ht
    have g2:=fun w ht => formatUint_any s (by omega) w ht
    have g3:=fun w ht => itoa_any o (by omega) w ht
    have z1:=(numB_size n (by omega)).2
    have z2:=(numB_size s (by omega)).2
    have z3:=(numB_size o (by omega)).2
    have HT : Hid (∀ W,RowKit.Below w.heap.size w W → Lib.TabIs Tryz.prog W tabNm .u64 Lib.pow10Tab):=fun W hW => htab.at hW
    unfold keyB
    simp only [Int.toNat_natCast]
    obtain ⟨x,hx⟩ : ∃ x,numB n = x:=⟨_,rfl⟩
    obtain ⟨y,hy⟩ : ∃ x,numB s = x:=⟨_,rfl⟩
    obtain ⟨z,hz⟩ : ∃ x,numB o = x:=⟨_,rfl⟩
    rw [hx] at g1 z1;rw [hy] at g2 z2;rw [hz] at g3 z3
    rw [hx,hy,hz]
    replace g1:=Lib.hid g1;replace g2:=Lib.hid g2;replace g3:=Lib.hid g3
    clear hx hy hz htab h0 h1 h2 h3 h4 h5
    go_enter Tryz.func23,Tryz.ntmps23
    go_wp2_with (go_at_call 31;(with_reducible refine (Hc.out _).mono ?_);rintro e wb ⟨rfl,hb⟩;have kk3 : blk wb (w.heap.size) = some #[.int .i64 (n : Int),.int .u64 (s : Int),.int .i64 (o : Int)]:=(by (apply jt;(focus repeat(first|(with_reducible first|assumption|apply jd|apply js)|((with_reducible apply jo);first|focus(dsimp only;assumption)|focus(simp;done)|focus(dsimp only;omega))|((with_reducible apply jn);first|with_reducible rfl|focus(simp;done)|focus(simp;omega))|(with_reducible apply ja)|((with_reducible apply jb);with_reducible assumption)));rfl));have kn3:=kn kk3)
    refine wp_region_in (by kernel_rfl) (by kernel_rfl) ?_
    intro W0_1 hE_1 hN_1
    have bW0_1 : Below w.heap.size w W0_1:=(by rw [hE_1.out];(repeat(first|(with_reducible first|assumption|exact Below.refl _ _|refine je ?_|refine jl ?_)|((with_reducible refine jp ?_ ?_);first|focus(dsimp only;assumption)|focus(simp;done)|focus(dsimp only;omega))|(with_reducible refine bt ?_ (by assumption)))))
    have kk2 : blk W0_1 (w.heap.size) = some #[.int .i64 (n : Int),.int .u64 (s : Int),.int .i64 (o : Int)]:=(by rw [hE_1.out];(apply jt;(focus repeat(first|(with_reducible first|assumption|apply jd|apply js)|((with_reducible apply jo);first|focus(dsimp only;assumption)|focus(simp;done)|focus(dsimp only;omega))|((with_reducible apply jn);first|with_reducible rfl|focus(simp;done)|focus(simp;omega))|(with_reducible apply ja)|((with_reducible apply jb);with_reducible assumption)));rfl))
    have kn2:=calm_kn kk2
    clear hE_1
    repeat (go_big_quiet_step ((first|(go_at_call 21;(with_reducible refine Class.go _ (g1.out _ ?_));exact HT.out _ (bt (by assumption) (Class.ok _)))|(go_at_call 20;(with_reducible refine Class.go _ (g2.out _ ?_));exact HT.out _ (bt (by assumption) (Class.ok _)))|(go_at_call 21;(with_reducible refine Class.go _ (g3.out _ ?_));exact HT.out _ (bt (by assumption) (Class.ok _))))))
    refine wpQuiet_nil ?_
    rintro _ ⟨x_1,rfl⟩
    have hx_1 : Calm W0_1 x_1.wd:=x_1.ok
    have bwn : Below w.heap.size w x_1.wd:=bt bW0_1 hx_1
    clear kn2;replace kk2:=blk_below hx_1 kk2;have kn2:=kn kk2
    clear hx_1 bW0_1 hN_1
    generalize x_1.wd = wn at *
    go_wp2
    go_ret2
    exact ⟨rfl,bwn⟩
  · rw [show keyC no sq of = (⟨#[]⟩,2) by unfold keyC;rw [if_neg (by rw [h0];decide),h0]]
    clear h h0 htab
    go_enter Tryz.func23,Tryz.ntmps23
    go_wp2_with (go_at_call 31;(with_reducible refine (Hc.out _).mono ?_);rintro e wb ⟨rfl,hb⟩;have kk4 : blk wb (w.heap.size) = some #[.int .i64 no,.int .u64 sq,.int .i64 of]:=(by (apply jt;(focus repeat(first|(with_reducible first|assumption|apply jd|apply js)|((with_reducible apply jo);first|focus(dsimp only;assumption)|focus(simp;done)|focus(dsimp only;omega))|((with_reducible apply jn);first|with_reducible rfl|focus(simp;done)|focus(simp;omega))|(with_reducible apply ja)|((with_reducible apply jb);with_reducible assumption)));rfl));have kn4:=kn kk4)
    go_ret2
    exact ⟨rfl,bta hb⟩
end Go.Proofs.YtaiofjffoboicaaGreatDoor
namespace Go.Proofs.YtaiofjffoboicaaGreatDoor
open Go.RowKit
theorem infoStr : (Tryz.prog.info? 9).map (fun i => (i.zero,i.size,i.bytes)) = some (some (.string ⟨#[]⟩),1,16):=by kernel_rfl
theorem owns_below {w w' : World} {base : Nat} {e : TypeId} {size : Nat} {v : Value} {n : Nat} {xs : List Value} (h : w.ownsRow base e size v n xs) (hb : Below w.heap.size w w') : w'.ownsRow base e size v n xs:=by
  obtain ⟨h1,h2⟩:=h
  refine ⟨h1,?_⟩
  rcases h2 with h2|⟨g,cap,cur,h3,h4,h5,h6⟩
  · exact .inl h2
  · refine .inr ⟨g,cap,cur,h3,h4,?_,h6⟩
    have hlt : g < w.heap.size:=(Array.getElem?_eq_some_iff.1 h5).1
    rw [hb.block g hlt]
    exact h5
theorem owns_new (w : World) (cs : Array Value) (e : TypeId) (base : Nat) (hb : base ≤ w.heap.size) (hm : cs.size ≤ maxLen) : (w.alloc (.cells cs e)).ownsRow base e 1 (.slice (some ⟨w.heap.size,0,none⟩) cs.size cs.size) cs.size cs.toList :=
  ⟨by simp,.inr ⟨w.heap.size,cs.size,cs,rfl,hb,heap_alloc_new _ _,Nat.le_refl _,hm,by simp,by rw [List.take_of_length_le (by simp)]⟩⟩
theorem wpAnyH_weaken {P : Program} {md : Region.Mode} {ops : Array Oper} {Q : Exit → Act → World → Prop} {S S2 : World → Prop} (hS : ∀ w,S2 w → S w) : ∀ (fuel : Nat) (listed : Array Bool) (a : Act) (w : World),wpAnyH P md ops Q S2 fuel listed a w → wpAnyH P md ops Q S fuel listed a w
  | 0,_,_,_,h => h
  | fuel + 1,_,_,_,h => ⟨h.1,fun i hi => wpOp_mono (fun a' w' hh => ⟨hS w' hh.1,wpAnyH_weaken hS fuel _ a' w' hh.2⟩) (h.2 i hi)⟩
abbrev blanksNm : String := "strings.asciiSpace"
def STabA (w : World) : Prop:=Lib.TabBelow Tryz.prog w.heap.size w blanksNm .u8 Lib.asciiSpaceTab
theorem STabA.at {w w' : World} (h : STabA w) (hb : Below w.heap.size w w') : Lib.TabIs Tryz.prog w' blanksNm .u8 Lib.asciiSpaceTab:=(Lib.TabBelow.on h hb).here
theorem STabA.on {w w' : World} (h : STabA w) (hb : Below w.heap.size w w') : STabA w':=Lib.tabBelow_of_tabIs (h.at hb)
theorem stabA_of {w : World} (h : Lib.TabIs Tryz.prog w blanksNm .u8 Lib.asciiSpaceTab) : STabA w:=Lib.tabBelow_of_tabIs h
theorem words_any (w : World) (h : STabA w) : Calls Tryz.prog 22 #[.string ⟨#[104,101,108,108,111,32,103,114,97,110,116,32,100,97,116,97,32,114,101,112,111,114,116,32,97,99,107,32,114,101,102,117,115,101,32,114,101,99,108,97,105,109]⟩] w fun e w' => e = .returned (.slice (some ⟨w.heap.size,0,none⟩) 7 7) ∧ w' = w.alloc (.cells #[.string ⟨#[104,101,108,108,111]⟩,.string ⟨#[103,114,97,110,116]⟩,.string ⟨#[100,97,116,97]⟩,.string ⟨#[114,101,112,111,114,116]⟩,.string ⟨#[97,99,107]⟩,.string ⟨#[114,101,102,117,115,101]⟩,.string ⟨#[114,101,99,108,97,105,109]⟩] 9):=by
  have:=Tryz.strings_Fields ⟨#[104,101,108,108,111,32,103,114,97,110,116,32,100,97,116,97,32,114,101,112,111,114,116,32,97,99,107,32,114,101,102,117,115,101,32,114,101,99,108,97,105,109]⟩ w (by decide) (fun j b hj => of_decide_eq_true (List.all_eq_true.1 (by decide : ((⟨#[104,101,108,108,111,32,103,114,97,110,116,32,100,97,116,97,32,114,101,112,111,114,116,32,97,99,107,32,114,101,102,117,115,101,32,114,101,99,108,97,105,109]⟩ : ByteArray).data.toList.all fun b => decide (b.toNat < 128)) = true) b (List.mem_of_getElem? hj))) (h.at (Below.refl _ _))
  exact this
def nameB (k : Int) : ByteArray:=if k = 1 then ⟨#[104,101,108,108,111]⟩ else if k = 2 then ⟨#[103,114,97,110,116]⟩ else if k = 3 then ⟨#[100,97,116,97]⟩ else if k = 4 then ⟨#[114,101,112,111,114,116]⟩ else if k = 5 then ⟨#[97,99,107]⟩ else if k = 6 then ⟨#[114,101,102,117,115,101]⟩ else if k = 7 then ⟨#[114,101,99,108,97,105,109]⟩ else ⟨#[]⟩
theorem name_size (k : Int) : (nameB k).size ≤ 10:=by
  unfold nameB
  repeat (split;decide)
  decide
theorem name_at (k : Int) (hk : 1 ≤ k ∧ k ≤ 7) : (#[.string ⟨#[104,101,108,108,111]⟩,.string ⟨#[103,114,97,110,116]⟩,.string ⟨#[100,97,116,97]⟩,.string ⟨#[114,101,112,111,114,116]⟩,.string ⟨#[97,99,107]⟩,.string ⟨#[114,101,102,117,115,101]⟩,.string ⟨#[114,101,99,108,97,105,109]⟩] : Array Value)[(k - 1).toNat]? = some (.string (nameB k)):=by
  have h : k = 1 ∨ k = 2 ∨ k = 3 ∨ k = 4 ∨ k = 5 ∨ k = 6 ∨ k = 7:=by omega
  rcases h with rfl|rfl|rfl|rfl|rfl|rfl|rfl <;> rfl
theorem itoaI (n : Int) (h0 : 0 ≤ n) (h1 : n < 9223372036854775808) (w : World) (h : Tab w) : Calls Tryz.prog 21 #[.int .i64 n] w fun e w' => e = .returned (.string (numB n.toNat)) ∧ Below w.heap.size w w':=by
  have:=itoa_any n.toNat (by omega) w (h.at (Below.refl _ _))
  rwa [Int.toNat_of_nonneg h0] at this
set_option maxRecDepth 100000 in
theorem digitsF (n : Int) (h0 : 0 ≤ n) (h1 : n < 18446744073709551616) (w : World) (h : Tab w) : Calls Tryz.prog 19 #[.int .u64 n] w fun e w' => e = .returned (.string (numB n.toNat)) ∧ Below w.heap.size w w':=by
  have g:=formatUint_any n.toNat (by omega) w (h.at (Below.refl _ _))
  rw [Int.toNat_of_nonneg h0] at g
  replace g:=Lib.hid g
  obtain ⟨x,hx⟩ : ∃ x,numB n.toNat = x:=⟨_,rfl⟩
  rw [hx] at g ⊢
  clear hx
  go_enter Tryz.func19,Tryz.ntmps19
  go_wp2_with (go_at_call 20;(with_reducible refine g.out.mono ?_);rintro e wx ⟨rfl,hx⟩)
  go_ret
  exact ⟨rfl,hx⟩
def idF (f : Fr) : Value:=if f.k = 3 then idv f.bno f.bsq f.bof else idv f.ino f.isq f.iof
def keyF (f : Fr) : ByteArray:=if f.k = 3 then keyB f.bno f.bsq f.bof else keyB f.ino f.isq f.iof
set_option maxRecDepth 100000 in
theorem about_any (f : Fr) (w : World) : Calls Tryz.prog 24 #[frv f] w fun e w' => e = .returned (idF f) ∧ Below w.heap.size w w':=by
  unfold idF
  by_cases h : f.k = 3
  · rw [if_pos h]
    have e1 : (f.k == 3) = true:=by simp [h]
    clear h
    go_enter Tryz.func24,Tryz.ntmps24
    go_wp2
    refine ret_blk (b:=w.heap.size + 1) (c:=#[.int .i64 f.bno,.int .u64 f.bsq,.int .i64 f.bof]) (v:=idv f.bno f.bsq f.bof) (by (apply jt;(focus repeat(first|(with_reducible first|assumption|apply jd|apply js)|((with_reducible apply jo);first|focus(dsimp only;assumption)|focus(simp;done)|focus(dsimp only;omega))|((with_reducible apply jn);first|with_reducible rfl|focus(simp;done)|focus(simp;omega))|(with_reducible apply ja)|((with_reducible apply jb);with_reducible assumption)));rfl)) (fun W' hc => by simp [results,Tryz.results24,go_sem,hc]) rfl ⟨rfl,by (repeat(first|(with_reducible first|assumption|exact Below.refl _ _|refine je ?_|refine jl ?_)|((with_reducible refine jp ?_ ?_);first|focus(dsimp only;assumption)|focus(simp;done)|focus(dsimp only;omega))|(with_reducible refine bt ?_ (by assumption))))⟩
  · rw [if_neg h]
    have e1 : (f.k == 3) = false:=by simp [h]
    clear h
    go_enter Tryz.func24,Tryz.ntmps24
    go_wp2
    refine ret_blk (b:=w.heap.size + 1) (c:=#[.int .i64 f.ino,.int .u64 f.isq,.int .i64 f.iof]) (v:=idv f.ino f.isq f.iof) (by (apply jt;(focus repeat(first|(with_reducible first|assumption|apply jd|apply js)|((with_reducible apply jo);first|focus(dsimp only;assumption)|focus(simp;done)|focus(dsimp only;omega))|((with_reducible apply jn);first|with_reducible rfl|focus(simp;done)|focus(simp;omega))|(with_reducible apply ja)|((with_reducible apply jb);with_reducible assumption)));rfl)) (fun W' hc => by simp [results,Tryz.results24,go_sem,hc]) rfl ⟨rfl,by (repeat(first|(with_reducible first|assumption|exact Below.refl _ _|refine je ?_|refine jl ?_)|((with_reducible refine jp ?_ ?_);first|focus(dsimp only;assumption)|focus(simp;done)|focus(dsimp only;omega))|(with_reducible refine bt ?_ (by assumption))))⟩
theorem keyF_ok (f : Fr) (hC : frC f = 0) (h : (hasD f.k || hasI f.k) = true) : if f.k = 3 then okI f.bno f.bsq f.bof else okI f.ino f.isq f.iof:=by
  obtain ⟨_,_,hb,_⟩:=frC_ok hC
  unfold bcF at hb
  by_cases h3 : f.k = 3
  · rw [if_pos h3]
    rw [if_pos h3] at hb
    exact (buC_ok hb).1
  · rw [if_neg h3]
    have h5 : f.k = 5 ∨ f.k = 6:=by unfold hasD hasI at h;simp only [Bool.or_eq_true,decide_eq_true_eq] at h;omega
    rw [if_neg h3,if_pos h5] at hb
    rcases idC_cases f.ino f.isq f.iof with x|x
    · exact x.2
    · omega
theorem keyF_any (f : Fr) (hC : frC f = 0) (hn : NN f) (h : (hasD f.k || hasI f.k) = true) (w : World) (t : Tab w) : Calls Tryz.prog 23 #[idF f] w fun e w' => e = .returned (.tuple #[.string (keyF f),.int .i64 0]) ∧ Below w.heap.size w w':=by
  have ho:=keyF_ok f hC h
  unfold idF keyF
  by_cases h3 : f.k = 3
  · rw [if_pos h3] at ho
    rw [if_pos h3,if_pos h3]
    have:=key_any f.bno f.bsq f.bof hn.bsq.1 w t
    rwa [show keyC f.bno f.bsq f.bof = (keyB f.bno f.bsq f.bof,0) from if_pos (by unfold idC;rw [if_pos ho])] at this
  · rw [if_neg h3] at ho
    rw [if_neg h3,if_neg h3]
    have:=key_any f.ino f.isq f.iof hn.isq.1 w t
    rwa [show keyC f.ino f.isq f.iof = (keyB f.ino f.isq f.iof,0) from if_pos (by unfold idC;rw [if_pos ho])] at this
theorem keyB_size (no sq of : Int) (h1 : no < 18446744073709551616) (h2 : sq < 18446744073709551616) (h3 : of < 18446744073709551616) : (keyB no sq of).size ≤ 62:=by
  have z1:=(numB_size no.toNat (by omega)).2
  have z2:=(numB_size sq.toNat (by omega)).2
  have z3:=(numB_size of.toNat (by omega)).2
  unfold keyB
  rw [ByteArray.size_append,ByteArray.size_append,ByteArray.size_append,ByteArray.size_append]
  have : (⟨#[46]⟩ : ByteArray).size = 1:=rfl
  omega
theorem keyF_size (f : Fr) (hC : frC f = 0) (hn : NN f) : (hasD f.k || hasI f.k) = true → (keyF f).size ≤ 62:=fun h => by
  have ho:=keyF_ok f hC h
  have a1:=hn.bsq;have a2:=hn.isq
  unfold keyF
  by_cases h3 : f.k = 3
  · rw [if_pos h3] at ho ⊢
    unfold okI at ho
    exact keyB_size _ _ _ (by omega) (by omega) (by omega)
  · rw [if_neg h3] at ho ⊢
    unfold okI at ho
    exact keyB_size _ _ _ (by omega) (by omega) (by omega)
def optL (b : Bool) (x : ByteArray) : List ByteArray:=cond b [x] []
def partsF (f : Fr) : List ByteArray:=[numB f.fr.toNat ++ ⟨#[62]⟩ ++ numB f.to_.toNat,numB f.mi.toNat ++ ⟨#[47]⟩ ++ numB f.yo.toNat,nameB f.k] ++ optL (hasA f.k) (numB f.a.toNat) ++ optL (hasB f.k) (numB f.b.toNat) ++ optL (hasD f.k || hasI f.k) (keyF f)
def joinB (l : List ByteArray) : ByteArray:=⟨(Lib.join (l.map (·.data.toList)) [32]).toArray⟩
def textF (f : Fr) : ByteArray × Int:=if frC f = 0 then (joinB (partsF f),0) else (⟨#[]⟩,frC f)
theorem own_form {w : World} {base : Nat} {e : TypeId} {v : Value} {L : List ByteArray} (h : w.ownsRow base e 1 v L.length (L.map Value.string)) (hL : L ≠ []) :
    ∃ g cap,v = .slice (some ⟨g,0,none⟩) L.length cap ∧ L.length ≤ cap ∧ g < w.heap.size ∧ ∀ (j : Nat) x,L[j]? = some x → w.cell? ⟨g,0 + j,none⟩ = some (.string x):=by
  have hl:=List.length_pos_iff.2 hL
  rcases h.2 with ⟨_,h0⟩|⟨g,cap,cur,rfl,hb,hg,hn,hm,hs,ht⟩
  · omega
  · refine ⟨g,cap,rfl,hn,(Array.getElem?_eq_some_iff.1 hg).1,fun j x hj => ?_⟩
    have hjl : j < L.length:=(List.getElem?_eq_some_iff.1 hj).1
    rw [Nat.zero_add,h.cellAt j (by omega),List.getElem?_map,hj]
    rfl
theorem lens_le (l : List (List UInt8)) (h : ∀ x ∈ l,x.length ≤ 100) : Lib.lens l ≤ 100 * l.length:=by
  induction l with
  | nil => simp [Lib.lens]
  | cons x l ih =>
    have h1:=ih fun y hy => h y (List.mem_cons_of_mem _ hy)
    have h2:=h x List.mem_cons_self
    simp only [Lib.lens,List.map_cons,List.sum_cons,List.length_cons] at h1 ⊢
    omega
theorem joinB_len (L : List ByteArray) (h : ∀ x ∈ L,x.size ≤ 100) (hl : L.length ≤ 10) : (Lib.join (L.map (·.data.toList)) [32]).length ≤ 1100:=by
  match L with
  | [] => simp [Lib.join_nil]
  | x :: r =>
    have h1:=lens_le ((x :: r).map (·.data.toList)) (fun y hy => by
      obtain ⟨z,hz,rfl⟩:=List.mem_map.1 hy
      have:=h z hz
      simpa using this)
    rw [List.map_cons] at h1 ⊢
    rw [Lib.join_length]
    simp only [List.length_cons,List.length_map,List.length_nil] at h1 hl ⊢
    omega
end Go.Proofs.YtaiofjffoboicaaGreatDoor
