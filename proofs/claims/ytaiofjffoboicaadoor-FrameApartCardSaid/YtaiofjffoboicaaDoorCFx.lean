/- Parts of a proof, printed by a program of mine out of my texts: FxKey, FxPre, FxLaw, FxData. -/
import Derived.Lib.AppendIntMem
import Derived.Lib.ItoaLen
import Derived.Lib.Join
import Derived.OrdersHeld
import Derived.Test.YtaiofjffoboicaaDoorCA
import Derived.Test.YtaiofjffoboicaaDoorCB
import Derived.Test.YtaiofjffoboicaaDoorCEq
import Derived.Test.YtaiofjffoboicaaDoorCFrAns
import Derived.Test.YtaiofjffoboicaaDoorCFwKit
import Derived.Test.YtaiofjffoboicaaDoorCShelf
import Derived.Test.YtaiofjffoboicaaDoorCUsed
import Derived.Test.YtaiofjffoboicaaDoorCX9
set_option linter.unusedSimpArgs false
set_option linter.unusedVariables false
namespace Go.Proofs.YtaiofjffoboicaaDoor
open Go.RowKit Go.Sort
open Go.Lib (decDigits nDigits)
def numB (u : Nat) : ByteArray:=⟨(decDigits u).toArray⟩
theorem numB_size (u : Nat) (h : u < 18446744073709551616) : 1 ≤ (numB u).size ∧ (numB u).size ≤ 20:=by
  have e : (numB u).size = nDigits u:=by show (decDigits u).toArray.size = _;simp [Lib.decDigits_length]
  rw [e]
  by_cases h0 : u = 0
  · subst h0;rw [nDigits];simp
  · have:=Lib.numDigits_eq u (by omega) h
    constructor
    · rw [nDigits];split <;> omega
    · split at this <;> omega
theorem numB_step (u : Nat) (h : ¬ u < 10) : numB u = numB (u / 10) ++ ⟨#[48 + UInt8.ofNat (u % 10)]⟩:=by
  unfold numB
  rw [decDigits,dif_neg h]
  apply ByteArray.ext
  simp
abbrev tabNm : String := "internal/strconv.uint64pow10"
theorem below_put (w : World) (o : Obj) (dk : Array UInt8) (k : Nat) : RowKit.Below w.heap.size w ((putRow (fun (b : UInt8) => Value.int .u8 (b.toNat : Int)) (w.alloc o) w.heap.size 0 dk).drewN k):=by
  rw [alloc_eq_grow]
  obtain ⟨os',_,e⟩:=putRow_grow_new (fun (b : UInt8) => Value.int .u8 (b.toNat : Int)) w #[o] w.heap.size 0 dk (Nat.le_refl _)
  rw [e]
  exact Lib.below_grow _ w (Nat.le_refl _) k os'
set_option maxRecDepth 100000 in
set_option maxHeartbeats 6400000 in
theorem formatUint_big (u : Nat) (hu0 : ¬ u < 100) (hu64 : u < 18446744073709551616) (w : World) (htab : Lib.TabIs Tryd.prog w tabNm .u64 Lib.pow10Tab) :
    Calls Tryd.prog 72 #[.int .u64 u,.int .i64 10] w fun e w' => e = .returned (.string (numB u)) ∧ RowKit.Below w.heap.size w w':=by
  have hu1 : 1 ≤ u:=by omega
  have hnd20 : nDigits u ≤ 20:=by have:=Lib.numDigits_eq u hu1 hu64;split at this <;> omega
  have hal : Tryd.prog.arrayLen 151 = 24:=by simp [Program.arrayLen,Tryd.underlying151]
  have hsl : ∀ W,(Instr.sliceAt 151 (.pointer (some ⟨w.heap.size,0,none⟩)) none (some (.int .i64 (nDigits u : Int))) none).run Tryd.prog W = .ok (.slice (some ⟨w.heap.size,0,none⟩) (nDigits u) 24) W:=fun W => by
    rw [run_sliceAt_array_h W 151 ⟨w.heap.size,0,none⟩ (by simp [Program.arrayLen,Program.elem,Tryd.underlying151]) .i64 (nDigits u : Int) (by omega) (by rw [hal];omega)]
    go_simp
  have hH0:=Lib.holds_zero0 w 151 (nDigits u) (by omega)
  have hfmt:=Tryd.internal_strconv_formatBase10 w.heap.size 0 24 u (Array.replicate (nDigits u) 0) (w.alloc (.cells Lib.zeros24 151)) hH0 (by rw [Array.size_replicate];exact Lib.lt_pow_nDigits u) hu64 (by rw [Array.size_replicate];omega)
  rw [Array.size_replicate] at hfmt
  have HH0:=Lib.hid hH0
  have Hb:=Lib.hid (fun dk k => below_put w (.cells Lib.zeros24 151) dk k)
  have hlt : ¬ (u : Int) < 100:=by omega
  have hub : (u : Int) ≤ 18446744073709551615:=by omega
  clear hH0 hal
  go_enter Tryd.func72,Tryd.ntmps72
  go_wp2_with (first
    | (go_at_call 99;refine (Tryd.internal_strconv_numDigits u hu1 hu64 _ (Lib.tabIs_alloc htab _)).mono ?_;rintro e w' ⟨rfl,rfl⟩))
  go_at_call 100
  refine hfmt.mono ?_
  rintro e w' ⟨rfl,k,v',dk,rfl,hF⟩
  have hcv : (convert 41 9 (.slice (some ⟨w.heap.size,0,none⟩) (nDigits u) 24)).run Tryd.prog ((putRow (fun (b : UInt8) => Value.int .u8 (b.toNat : Int)) (w.alloc (.cells Lib.zeros24 151)) w.heap.size 0 dk).drewN k) = .ok (.string (numB u)) ((putRow (fun (b : UInt8) => Value.int .u8 (b.toNat : Int)) (w.alloc (.cells Lib.zeros24 151)) w.heap.size 0 dk).drewN k):=by
    have h:=run_convert_bytes_back (P:=Tryd.prog) ((putRow (fun (b : UInt8) => Value.int .u8 (b.toNat : Int)) (w.alloc (.cells Lib.zeros24 151)) w.heap.size 0 dk).drewN k) 41 9 5 ⟨w.heap.size,0,none⟩ 24 (decDigits u) Tryd.underlying41 Tryd.underlying5 Tryd.underlying9 (fun j hj => by
      rw [Lib.row_is_numeral hF j hj,Lib.add_plain,World.cell?_drewN]
      exact cell?_putRow (fun (b : UInt8) => Value.int .u8 (b.toNat : Int)) _ w.heap.size 0 _ dk HH0.out (by rw [hF.size,Array.size_replicate]) j (by rw [hF.size];rw [Lib.decDigits_length] at hj;exact hj))
    rw [Lib.decDigits_length] at h
    exact h
  go_wp2
  go_ret
  exact ⟨rfl,Hb.out dk k⟩
theorem small_dec (u : Nat) (hu : u < 100) (w : World) : Calls Tryd.prog 98 #[.int .i64 (u : Int)] w fun e w' => e = .returned (.string (numB u)) ∧ w = w' :=
  (Tryd.internal_strconv_small u hu w).mono fun e w' ⟨he,hw⟩ => ⟨he,hw.symm⟩
set_option maxRecDepth 100000 in
set_option maxHeartbeats 800000 in
theorem formatUint_any (u : Nat) (hu64 : u < 18446744073709551616) (w : World) (htab : Lib.TabIs Tryd.prog w tabNm .u64 Lib.pow10Tab) :
    Calls Tryd.prog 44 #[.int .u64 u,.int .i64 10] w fun e w' => e = .returned (.string (numB u)) ∧ RowKit.Below w.heap.size w w':=by
  by_cases h : u < 100
  · have Hs:=Lib.hid (small_dec u h)
    obtain ⟨s,hs⟩ : ∃ s,numB u = s:=⟨_,rfl⟩
    rw [hs] at Hs ⊢
    clear hs htab
    go_enter Tryd.func44,Tryd.ntmps44
    go_wp2_with (first|(go_at_call 98;(with_reducible refine (Hs.out _).mono ?_);rintro e wx ⟨rfl,rfl⟩)|go_in)
    go_ret
    exact ⟨rfl,Below.refl _ _⟩
  · have Hs:=Lib.hid (formatUint_big u h hu64 w htab)
    obtain ⟨s,hs⟩ : ∃ s,numB u = s:=⟨_,rfl⟩
    rw [hs] at Hs ⊢
    clear hs htab
    go_enter Tryd.func44,Tryd.ntmps44
    go_wp2_with (go_at_call 72;(with_reducible refine Hs.out.mono ?_);rintro e wx ⟨rfl,hx⟩)
    go_ret
    exact ⟨rfl,hx⟩
theorem itoa_any (u : Nat) (hu : u < 9223372036854775808) (w : World) (htab : Lib.TabIs Tryd.prog w tabNm .u64 Lib.pow10Tab) :
    Calls Tryd.prog 45 #[.int .i64 (u : Int)] w fun e w' => e = .returned (.string (numB u)) ∧ RowKit.Below w.heap.size w w' :=
  (Tryd.strconv_Itoa (u : Int) (by omega) (by omega) w htab).mono fun e w' ⟨he,k,os,hw⟩ => ⟨by rw [he,Lib.itoa_nonneg];rfl,by rw [hw];exact Lib.below_grow _ w (Nat.le_refl _) k os⟩
def Tab (w : World) : Prop:=Lib.TabBelow Tryd.prog w.heap.size w tabNm .u64 Lib.pow10Tab
theorem Tab.at {w w' : World} (h : Tab w) (hb : RowKit.Below w.heap.size w w') : Lib.TabIs Tryd.prog w' tabNm .u64 Lib.pow10Tab:=(Lib.TabBelow.on h hb).here
theorem Tab.on {w w' : World} (h : Tab w) (hb : RowKit.Below w.heap.size w w') : Tab w':=Lib.tabBelow_of_tabIs (h.at hb)
theorem tab_of {w : World} (h : Lib.TabIs Tryd.prog w tabNm .u64 Lib.pow10Tab) : Tab w:=Lib.tabBelow_of_tabIs h
def keyB (no sq of : Int) : ByteArray:=numB no.toNat ++ ⟨#[46]⟩ ++ numB sq.toNat ++ ⟨#[46]⟩ ++ numB of.toNat
def keyC (no sq of : Int) : ByteArray × Int:=if idC no sq of = 0 then (keyB no sq of,0) else (⟨#[]⟩,idC no sq of)
set_option maxRecDepth 100000 in
set_option maxHeartbeats 1600000 in
theorem key_any (no sq of : Int) (hsq : 0 ≤ sq) (w : World) (htab : Tab w) :
    Calls Tryd.prog 47 #[idv no sq of] w fun e w' => e = .returned (.tuple #[.string (keyC no sq of).1,.int .i64 (keyC no sq of).2]) ∧ RowKit.Below w.heap.size w w':=by
  have Hc:=fun w => checkID_any no sq of w
  rcases idC_cases no sq of with ⟨h0,h⟩|⟨h0,h⟩ <;> rw [h0] at Hc <;> replace Hc:=Lib.hid Hc
  · obtain ⟨h1,h2,h3,h4,h5⟩:=h
    rw [show keyC no sq of = (keyB no sq of,0) from if_pos h0]
    obtain ⟨n,rfl⟩:=Int.eq_ofNat_of_zero_le (show 0 ≤ no by omega)
    obtain ⟨s,rfl⟩:=Int.eq_ofNat_of_zero_le hsq
    obtain ⟨o,rfl⟩:=Int.eq_ofNat_of_zero_le h4
    have g1:=fun w ht => itoa_any n (by omega) w ht
    have g2:=fun w ht => formatUint_any s (by omega) w ht
    have g3:=fun w ht => itoa_any o (by omega) w ht
    have z1:=(numB_size n (by omega)).2
    have z2:=(numB_size s (by omega)).2
    have z3:=(numB_size o (by omega)).2
    have HT : Hid (∀ W,RowKit.Below w.heap.size w W → Lib.TabIs Tryd.prog W tabNm .u64 Lib.pow10Tab):=fun W hW => htab.at hW
    unfold keyB
    simp only [Int.toNat_natCast]
    obtain ⟨x,hx⟩ : ∃ x,numB n = x:=⟨_,rfl⟩
    obtain ⟨y,hy⟩ : ∃ x,numB s = x:=⟨_,rfl⟩
    obtain ⟨z,hz⟩ : ∃ x,numB o = x:=⟨_,rfl⟩
    rw [hx] at g1 z1;rw [hy] at g2 z2;rw [hz] at g3 z3
    rw [hx,hy,hz]
    replace g1:=Lib.hid g1;replace g2:=Lib.hid g2;replace g3:=Lib.hid g3
    clear hx hy hz htab h0 h1 h2 h3 h4 h5
    go_enter Tryd.func47,Tryd.ntmps47
    go_wp2_with (go_at_call 42;(with_reducible refine (Hc.out _).mono ?_);rintro e wb ⟨rfl,hb⟩;have kk3 : blk wb (w.heap.size) = some #[.int .i64 (n : Int),.int .u64 (s : Int),.int .i64 (o : Int)]:=(by (apply jt;(focus repeat(first|(with_reducible first|assumption|apply jd|apply js)|((with_reducible apply jo);first|focus(dsimp only;assumption)|focus(simp;done)|focus(dsimp only;omega))|((with_reducible apply jn);first|with_reducible rfl|focus(simp;done)|focus(simp;omega))|(with_reducible apply ja)|((with_reducible apply jb);with_reducible assumption)));rfl));have kn3:=kn kk3)
    refine wp_region_in (by kernel_rfl) (by kernel_rfl) ?_
    intro W0_1 hE_1 hN_1
    have bW0_1 : Below w.heap.size w W0_1:=(by rw [hE_1.out];(repeat(first|(with_reducible first|assumption|exact Below.refl _ _|refine je ?_|refine jl ?_)|((with_reducible refine jp ?_ ?_);first|focus(dsimp only;assumption)|focus(simp;done)|focus(dsimp only;omega))|(with_reducible refine bt ?_ (by assumption)))))
    have kk2 : blk W0_1 (w.heap.size) = some #[.int .i64 (n : Int),.int .u64 (s : Int),.int .i64 (o : Int)]:=(by rw [hE_1.out];(apply jt;(focus repeat(first|(with_reducible first|assumption|apply jd|apply js)|((with_reducible apply jo);first|focus(dsimp only;assumption)|focus(simp;done)|focus(dsimp only;omega))|((with_reducible apply jn);first|with_reducible rfl|focus(simp;done)|focus(simp;omega))|(with_reducible apply ja)|((with_reducible apply jb);with_reducible assumption)));rfl))
    have kn2:=calm_kn kk2
    clear hE_1
    repeat (go_big_quiet_step ((first|(go_at_call 45;(with_reducible refine Class.go _ (g1.out _ ?_));exact HT.out _ (bt (by assumption) (Class.ok _)))|(go_at_call 44;(with_reducible refine Class.go _ (g2.out _ ?_));exact HT.out _ (bt (by assumption) (Class.ok _)))|(go_at_call 45;(with_reducible refine Class.go _ (g3.out _ ?_));exact HT.out _ (bt (by assumption) (Class.ok _))))))
    refine wpQuiet_nil ?_
    rintro _ ⟨x_1,rfl⟩
    have hx_1 : Calm W0_1 x_1.wd:=x_1.ok
    have bwn : Below w.heap.size w x_1.wd:=bt bW0_1 hx_1
    clear kn2;replace kk2:=blk_below hx_1 kk2;have kn2:=kn kk2
    clear hx_1 bW0_1 hN_1
    generalize x_1.wd = wn at *
    go_wp2
    go_ret2
    exact ⟨rfl,bwn⟩
  · rw [show keyC no sq of = (⟨#[]⟩,2) by unfold keyC;rw [if_neg (by rw [h0];decide),h0]]
    clear h h0 htab
    go_enter Tryd.func47,Tryd.ntmps47
    go_wp2_with (go_at_call 42;(with_reducible refine (Hc.out _).mono ?_);rintro e wb ⟨rfl,hb⟩;have kk4 : blk wb (w.heap.size) = some #[.int .i64 no,.int .u64 sq,.int .i64 of]:=(by (apply jt;(focus repeat(first|(with_reducible first|assumption|apply jd|apply js)|((with_reducible apply jo);first|focus(dsimp only;assumption)|focus(simp;done)|focus(dsimp only;omega))|((with_reducible apply jn);first|with_reducible rfl|focus(simp;done)|focus(simp;omega))|(with_reducible apply ja)|((with_reducible apply jb);with_reducible assumption)));rfl));have kn4:=kn kk4)
    go_ret2
    exact ⟨rfl,bta hb⟩
end Go.Proofs.YtaiofjffoboicaaDoor
namespace Go.Proofs.YtaiofjffoboicaaDoor
open Go.RowKit
theorem infoStr : (Tryd.prog.info? 9).map (fun i => (i.zero,i.size,i.bytes)) = some (some (.string ⟨#[]⟩),1,16):=by kernel_rfl
theorem owns_below {w w' : World} {base : Nat} {e : TypeId} {size : Nat} {v : Value} {n : Nat} {xs : List Value} (h : w.ownsRow base e size v n xs) (hb : Below w.heap.size w w') : w'.ownsRow base e size v n xs:=by
  obtain ⟨h1,h2⟩:=h
  refine ⟨h1,?_⟩
  rcases h2 with h2|⟨g,cap,cur,h3,h4,h5,h6⟩
  · exact .inl h2
  · refine .inr ⟨g,cap,cur,h3,h4,?_,h6⟩
    have hlt : g < w.heap.size:=(Array.getElem?_eq_some_iff.1 h5).1
    rw [hb.block g hlt]
    exact h5
theorem owns_new (w : World) (cs : Array Value) (e : TypeId) (base : Nat) (hb : base ≤ w.heap.size) (hm : cs.size ≤ maxLen) : (w.alloc (.cells cs e)).ownsRow base e 1 (.slice (some ⟨w.heap.size,0,none⟩) cs.size cs.size) cs.size cs.toList :=
  ⟨by simp,.inr ⟨w.heap.size,cs.size,cs,rfl,hb,heap_alloc_new _ _,Nat.le_refl _,hm,by simp,by rw [List.take_of_length_le (by simp)]⟩⟩
theorem wpAnyH_weaken {P : Program} {md : Region.Mode} {ops : Array Oper} {Q : Exit → Act → World → Prop} {S S2 : World → Prop} (hS : ∀ w,S2 w → S w) : ∀ (fuel : Nat) (listed : Array Bool) (a : Act) (w : World),wpAnyH P md ops Q S2 fuel listed a w → wpAnyH P md ops Q S fuel listed a w
  | 0,_,_,_,h => h
  | fuel + 1,_,_,_,h => ⟨h.1,fun i hi => wpOp_mono (fun a' w' hh => ⟨hS w' hh.1,wpAnyH_weaken hS fuel _ a' w' hh.2⟩) (h.2 i hi)⟩
abbrev blanksNm : String := "strings.asciiSpace"
def STabA (w : World) : Prop:=Lib.TabBelow Tryd.prog w.heap.size w blanksNm .u8 Lib.asciiSpaceTab
theorem STabA.at {w w' : World} (h : STabA w) (hb : Below w.heap.size w w') : Lib.TabIs Tryd.prog w' blanksNm .u8 Lib.asciiSpaceTab:=(Lib.TabBelow.on h hb).here
theorem STabA.on {w w' : World} (h : STabA w) (hb : Below w.heap.size w w') : STabA w':=Lib.tabBelow_of_tabIs (h.at hb)
theorem stabA_of {w : World} (h : Lib.TabIs Tryd.prog w blanksNm .u8 Lib.asciiSpaceTab) : STabA w:=Lib.tabBelow_of_tabIs h
theorem words_any (w : World) (h : STabA w) : Calls Tryd.prog 46 #[.string ⟨#[104,101,108,108,111,32,103,114,97,110,116,32,100,97,116,97,32,114,101,112,111,114,116,32,97,99,107,32,114,101,102,117,115,101,32,114,101,99,108,97,105,109]⟩] w fun e w' => e = .returned (.slice (some ⟨w.heap.size,0,none⟩) 7 7) ∧ w' = w.alloc (.cells #[.string ⟨#[104,101,108,108,111]⟩,.string ⟨#[103,114,97,110,116]⟩,.string ⟨#[100,97,116,97]⟩,.string ⟨#[114,101,112,111,114,116]⟩,.string ⟨#[97,99,107]⟩,.string ⟨#[114,101,102,117,115,101]⟩,.string ⟨#[114,101,99,108,97,105,109]⟩] 9):=by
  have:=Tryd.strings_Fields ⟨#[104,101,108,108,111,32,103,114,97,110,116,32,100,97,116,97,32,114,101,112,111,114,116,32,97,99,107,32,114,101,102,117,115,101,32,114,101,99,108,97,105,109]⟩ w (by decide) (fun j b hj => of_decide_eq_true (List.all_eq_true.1 (by decide : ((⟨#[104,101,108,108,111,32,103,114,97,110,116,32,100,97,116,97,32,114,101,112,111,114,116,32,97,99,107,32,114,101,102,117,115,101,32,114,101,99,108,97,105,109]⟩ : ByteArray).data.toList.all fun b => decide (b.toNat < 128)) = true) b (List.mem_of_getElem? hj))) (h.at (Below.refl _ _))
  exact this
def nameB (k : Int) : ByteArray:=if k = 1 then ⟨#[104,101,108,108,111]⟩ else if k = 2 then ⟨#[103,114,97,110,116]⟩ else if k = 3 then ⟨#[100,97,116,97]⟩ else if k = 4 then ⟨#[114,101,112,111,114,116]⟩ else if k = 5 then ⟨#[97,99,107]⟩ else if k = 6 then ⟨#[114,101,102,117,115,101]⟩ else if k = 7 then ⟨#[114,101,99,108,97,105,109]⟩ else ⟨#[]⟩
theorem name_size (k : Int) : (nameB k).size ≤ 10:=by
  unfold nameB
  repeat (split;decide)
  decide
theorem name_at (k : Int) (hk : 1 ≤ k ∧ k ≤ 7) : (#[.string ⟨#[104,101,108,108,111]⟩,.string ⟨#[103,114,97,110,116]⟩,.string ⟨#[100,97,116,97]⟩,.string ⟨#[114,101,112,111,114,116]⟩,.string ⟨#[97,99,107]⟩,.string ⟨#[114,101,102,117,115,101]⟩,.string ⟨#[114,101,99,108,97,105,109]⟩] : Array Value)[(k - 1).toNat]? = some (.string (nameB k)):=by
  have h : k = 1 ∨ k = 2 ∨ k = 3 ∨ k = 4 ∨ k = 5 ∨ k = 6 ∨ k = 7:=by omega
  rcases h with rfl|rfl|rfl|rfl|rfl|rfl|rfl <;> rfl
theorem itoaI (n : Int) (h0 : 0 ≤ n) (h1 : n < 9223372036854775808) (w : World) (h : Tab w) : Calls Tryd.prog 45 #[.int .i64 n] w fun e w' => e = .returned (.string (numB n.toNat)) ∧ Below w.heap.size w w':=by
  have:=itoa_any n.toNat (by omega) w (h.at (Below.refl _ _))
  rwa [Int.toNat_of_nonneg h0] at this
set_option maxRecDepth 100000 in
theorem digitsF (n : Int) (h0 : 0 ≤ n) (h1 : n < 18446744073709551616) (w : World) (h : Tab w) : Calls Tryd.prog 43 #[.int .u64 n] w fun e w' => e = .returned (.string (numB n.toNat)) ∧ Below w.heap.size w w':=by
  have g:=formatUint_any n.toNat (by omega) w (h.at (Below.refl _ _))
  rw [Int.toNat_of_nonneg h0] at g
  replace g:=Lib.hid g
  obtain ⟨x,hx⟩ : ∃ x,numB n.toNat = x:=⟨_,rfl⟩
  rw [hx] at g ⊢
  clear hx
  go_enter Tryd.func43,Tryd.ntmps43
  go_wp2_with (go_at_call 44;(with_reducible refine g.out.mono ?_);rintro e wx ⟨rfl,hx⟩)
  go_ret
  exact ⟨rfl,hx⟩
def idF (f : Fr) : Value:=if f.k = 3 then idv f.bno f.bsq f.bof else idv f.ino f.isq f.iof
def keyF (f : Fr) : ByteArray:=if f.k = 3 then keyB f.bno f.bsq f.bof else keyB f.ino f.isq f.iof
set_option maxRecDepth 100000 in
theorem about_any (f : Fr) (w : World) : Calls Tryd.prog 48 #[frv f] w fun e w' => e = .returned (idF f) ∧ Below w.heap.size w w':=by
  unfold idF
  by_cases h : f.k = 3
  · rw [if_pos h]
    have e1 : (f.k == 3) = true:=by simp [h]
    clear h
    go_enter Tryd.func48,Tryd.ntmps48
    go_wp2
    refine ret_blk (b:=w.heap.size + 1) (c:=#[.int .i64 f.bno,.int .u64 f.bsq,.int .i64 f.bof]) (v:=idv f.bno f.bsq f.bof) (by (apply jt;(focus repeat(first|(with_reducible first|assumption|apply jd|apply js)|((with_reducible apply jo);first|focus(dsimp only;assumption)|focus(simp;done)|focus(dsimp only;omega))|((with_reducible apply jn);first|with_reducible rfl|focus(simp;done)|focus(simp;omega))|(with_reducible apply ja)|((with_reducible apply jb);with_reducible assumption)));rfl)) (fun W' hc => by simp [results,Tryd.results48,go_sem,hc]) rfl ⟨rfl,by (repeat(first|(with_reducible first|assumption|exact Below.refl _ _|refine je ?_|refine jl ?_)|((with_reducible refine jp ?_ ?_);first|focus(dsimp only;assumption)|focus(simp;done)|focus(dsimp only;omega))|(with_reducible refine bt ?_ (by assumption))))⟩
  · rw [if_neg h]
    have e1 : (f.k == 3) = false:=by simp [h]
    clear h
    go_enter Tryd.func48,Tryd.ntmps48
    go_wp2
    refine ret_blk (b:=w.heap.size + 1) (c:=#[.int .i64 f.ino,.int .u64 f.isq,.int .i64 f.iof]) (v:=idv f.ino f.isq f.iof) (by (apply jt;(focus repeat(first|(with_reducible first|assumption|apply jd|apply js)|((with_reducible apply jo);first|focus(dsimp only;assumption)|focus(simp;done)|focus(dsimp only;omega))|((with_reducible apply jn);first|with_reducible rfl|focus(simp;done)|focus(simp;omega))|(with_reducible apply ja)|((with_reducible apply jb);with_reducible assumption)));rfl)) (fun W' hc => by simp [results,Tryd.results48,go_sem,hc]) rfl ⟨rfl,by (repeat(first|(with_reducible first|assumption|exact Below.refl _ _|refine je ?_|refine jl ?_)|((with_reducible refine jp ?_ ?_);first|focus(dsimp only;assumption)|focus(simp;done)|focus(dsimp only;omega))|(with_reducible refine bt ?_ (by assumption))))⟩
theorem keyF_ok (f : Fr) (hC : frC f = 0) (h : (hasD f.k || hasI f.k) = true) : if f.k = 3 then okI f.bno f.bsq f.bof else okI f.ino f.isq f.iof:=by
  obtain ⟨_,_,hb,_⟩:=frC_ok hC
  unfold bcF at hb
  by_cases h3 : f.k = 3
  · rw [if_pos h3]
    rw [if_pos h3] at hb
    exact (buC_ok hb).1
  · rw [if_neg h3]
    have h5 : f.k = 5 ∨ f.k = 6:=by unfold hasD hasI at h;simp only [Bool.or_eq_true,decide_eq_true_eq] at h;omega
    rw [if_neg h3,if_pos h5] at hb
    rcases idC_cases f.ino f.isq f.iof with x|x
    · exact x.2
    · omega
theorem keyF_any (f : Fr) (hC : frC f = 0) (hn : NN f) (h : (hasD f.k || hasI f.k) = true) (w : World) (t : Tab w) : Calls Tryd.prog 47 #[idF f] w fun e w' => e = .returned (.tuple #[.string (keyF f),.int .i64 0]) ∧ Below w.heap.size w w':=by
  have ho:=keyF_ok f hC h
  unfold idF keyF
  by_cases h3 : f.k = 3
  · rw [if_pos h3] at ho
    rw [if_pos h3,if_pos h3]
    have:=key_any f.bno f.bsq f.bof hn.bsq.1 w t
    rwa [show keyC f.bno f.bsq f.bof = (keyB f.bno f.bsq f.bof,0) from if_pos (by unfold idC;rw [if_pos ho])] at this
  · rw [if_neg h3] at ho
    rw [if_neg h3,if_neg h3]
    have:=key_any f.ino f.isq f.iof hn.isq.1 w t
    rwa [show keyC f.ino f.isq f.iof = (keyB f.ino f.isq f.iof,0) from if_pos (by unfold idC;rw [if_pos ho])] at this
theorem keyB_size (no sq of : Int) (h1 : no < 18446744073709551616) (h2 : sq < 18446744073709551616) (h3 : of < 18446744073709551616) : (keyB no sq of).size ≤ 62:=by
  have z1:=(numB_size no.toNat (by omega)).2
  have z2:=(numB_size sq.toNat (by omega)).2
  have z3:=(numB_size of.toNat (by omega)).2
  unfold keyB
  rw [ByteArray.size_append,ByteArray.size_append,ByteArray.size_append,ByteArray.size_append]
  have : (⟨#[46]⟩ : ByteArray).size = 1:=rfl
  omega
theorem keyF_size (f : Fr) (hC : frC f = 0) (hn : NN f) : (hasD f.k || hasI f.k) = true → (keyF f).size ≤ 62:=fun h => by
  have ho:=keyF_ok f hC h
  have a1:=hn.bsq;have a2:=hn.isq
  unfold keyF
  by_cases h3 : f.k = 3
  · rw [if_pos h3] at ho ⊢
    unfold okI at ho
    exact keyB_size _ _ _ (by omega) (by omega) (by omega)
  · rw [if_neg h3] at ho ⊢
    unfold okI at ho
    exact keyB_size _ _ _ (by omega) (by omega) (by omega)
def optL (b : Bool) (x : ByteArray) : List ByteArray:=cond b [x] []
def partsF (f : Fr) : List ByteArray:=[numB f.fr.toNat ++ ⟨#[62]⟩ ++ numB f.to_.toNat,numB f.mi.toNat ++ ⟨#[47]⟩ ++ numB f.yo.toNat,nameB f.k] ++ optL (hasA f.k) (numB f.a.toNat) ++ optL (hasB f.k) (numB f.b.toNat) ++ optL (hasD f.k || hasI f.k) (keyF f)
def joinB (l : List ByteArray) : ByteArray:=⟨(Lib.join (l.map (·.data.toList)) [32]).toArray⟩
theorem own_form {w : World} {base : Nat} {e : TypeId} {v : Value} {L : List ByteArray} (h : w.ownsRow base e 1 v L.length (L.map Value.string)) (hL : L ≠ []) :
    ∃ g cap,v = .slice (some ⟨g,0,none⟩) L.length cap ∧ L.length ≤ cap ∧ g < w.heap.size ∧ ∀ (j : Nat) x,L[j]? = some x → w.cell? ⟨g,0 + j,none⟩ = some (.string x):=by
  have hl:=List.length_pos_iff.2 hL
  rcases h.2 with ⟨_,h0⟩|⟨g,cap,cur,rfl,hb,hg,hn,hm,hs,ht⟩
  · omega
  · refine ⟨g,cap,rfl,hn,(Array.getElem?_eq_some_iff.1 hg).1,fun j x hj => ?_⟩
    have hjl : j < L.length:=(List.getElem?_eq_some_iff.1 hj).1
    rw [Nat.zero_add,h.cellAt j (by omega),List.getElem?_map,hj]
    rfl
theorem lens_le (l : List (List UInt8)) (h : ∀ x ∈ l,x.length ≤ 100) : Lib.lens l ≤ 100 * l.length:=by
  induction l with
  | nil => simp [Lib.lens]
  | cons x l ih =>
    have h1:=ih fun y hy => h y (List.mem_cons_of_mem _ hy)
    have h2:=h x List.mem_cons_self
    simp only [Lib.lens,List.map_cons,List.sum_cons,List.length_cons] at h1 ⊢
    omega
theorem joinB_len (L : List ByteArray) (h : ∀ x ∈ L,x.size ≤ 100) (hl : L.length ≤ 10) : (Lib.join (L.map (·.data.toList)) [32]).length ≤ 1100:=by
  match L with
  | [] => simp [Lib.join_nil]
  | x :: r =>
    have h1:=lens_le ((x :: r).map (·.data.toList)) (fun y hy => by
      obtain ⟨z,hz,rfl⟩:=List.mem_map.1 hy
      have:=h z hz
      simpa using this)
    rw [List.map_cons] at h1 ⊢
    rw [Lib.join_length]
    simp only [List.length_cons,List.length_map,List.length_nil] at h1 hl ⊢
    omega
end Go.Proofs.YtaiofjffoboicaaDoor
namespace Go.Proofs.YtaiofjffoboicaaDoor
open Go.RowKit
open Go.Lib (decDigits)
theorem numB_list (u : Nat) : (numB u).data.toList = decDigits u:=by unfold numB;simp
def valL (l : List UInt8) : Nat:=l.foldl (fun a c => a * 10 + (c.toNat - 48)) 0
theorem dig_step (u : Nat) (h : ¬ u < 10) : decDigits u = decDigits (u / 10) ++ [48 + UInt8.ofNat (u % 10)]:=by
  have:=congrArg (fun b : ByteArray => b.data.toList) (numB_step u h)
  simp only [numB_list] at this
  rw [this]
  rw [ByteArray.data_append,Array.toList_append,numB_list]
theorem dig_toNat (r : Nat) (h : r < 10) : (48 + UInt8.ofNat r).toNat = 48 + r:=by
  rw [UInt8.toNat_add,UInt8.toNat_ofNat']
  show (48 + r % 2 ^ 8) % 2 ^ 8 = 48 + r
  omega
theorem dig_all : ∀ (n u : Nat),u ≤ n → (∀ c ∈ decDigits u,48 ≤ c.toNat ∧ c.toNat ≤ 57) ∧ valL (decDigits u) = u:=by
  intro n
  induction n with
  | zero =>
    intro u hu
    obtain rfl : u = 0:=by omega
    rw [Lib.decDigits_one (by decide)]
    exact ⟨by decide,by decide⟩
  | succ n ih =>
    intro u hu
    by_cases h : u < 10
    · rw [Lib.decDigits_one h]
      have h8 : (UInt8.ofNat (48 + u)).toNat = 48 + u:=by rw [UInt8.toNat_ofNat'];omega
      refine ⟨fun c hc => ?_,?_⟩
      · rw [List.mem_singleton.1 hc,h8];omega
      · simp only [valL,List.foldl_cons,List.foldl_nil,h8];omega
    · rw [dig_step u h]
      obtain ⟨i1,i2⟩:=ih (u / 10) (by omega)
      have h8:=dig_toNat (u % 10) (by omega)
      refine ⟨fun c hc => ?_,?_⟩
      · rcases List.mem_append.1 hc with hc|hc
        · exact i1 c hc
        · rw [List.mem_singleton.1 hc,h8];omega
      · unfold valL at i2 ⊢
        rw [List.foldl_append,i2]
        simp only [List.foldl_cons,List.foldl_nil,h8]
        omega
theorem dig_ne (u : Nat) (s : UInt8) (hs : s.toNat < 48 ∨ 57 < s.toNat) : s ∉ decDigits u:=fun hm => by
  have:=(dig_all u u (Nat.le_refl _)).1 s hm
  omega
theorem dig_inj {u v : Nat} (h : decDigits u = decDigits v) : u = v:=by
  have h1:=(dig_all u u (Nat.le_refl _)).2
  have h2:=(dig_all v v (Nat.le_refl _)).2
  rw [h] at h1
  omega
theorem cut_eq {s : UInt8} : ∀ (a b r t : List UInt8),s ∉ a → s ∉ b → a ++ s :: r = b ++ s :: t → a = b ∧ r = t:=by
  intro a
  induction a with
  | nil =>
    intro b r t ha hb h
    match b with
    | [] => simp at h;exact ⟨rfl,h⟩
    | c :: b => simp at h;exact absurd (h.1 ▸ List.mem_cons_self) hb
  | cons x a ih =>
    intro b r t ha hb h
    match b with
    | [] => simp at h;exact absurd (h.1 ▸ List.mem_cons_self) ha
    | c :: b =>
      simp at h
      obtain ⟨h1,h2⟩:=ih b r t (fun m => ha (List.mem_cons_of_mem _ m)) (fun m => hb (List.mem_cons_of_mem _ m)) h.2
      exact ⟨by rw [h.1,h1],h2⟩
theorem join_cons2 (x y : List UInt8) (r : List (List UInt8)) : Lib.join (x :: y :: r) [32] = x ++ 32 :: Lib.join (y :: r) [32]:=by
  simp [Lib.join,List.intercalate]
theorem join_inj : ∀ (xs ys : List (List UInt8)),(∀ x ∈ xs,(32 : UInt8) ∉ x) → (∀ y ∈ ys,(32 : UInt8) ∉ y) → xs ≠ [] → ys ≠ [] → Lib.join xs [32] = Lib.join ys [32] → xs = ys:=by
  intro xs
  induction xs with
  | nil => intro ys _ _ h;exact absurd rfl h
  | cons x r ih =>
    intro ys hx hy _ hy0 h
    match ys with
    | [] => exact absurd rfl hy0
    | y :: s =>
      have hx1:=hx x List.mem_cons_self
      have hy1:=hy y List.mem_cons_self
      match r,s with
      | [],[] =>
        rw [Lib.join_one,Lib.join_one] at h
        rw [h]
      | [],z :: s =>
        rw [Lib.join_one,join_cons2] at h
        exact absurd (by rw [h];simp) hx1
      | z :: r,[] =>
        rw [Lib.join_one,join_cons2] at h
        exact absurd (by rw [← h];simp) hy1
      | z :: r,z' :: s =>
        rw [join_cons2,join_cons2] at h
        obtain ⟨h1,h2⟩:=cut_eq x y _ _ hx1 hy1 h
        have h3:=ih (z' :: s) (fun w hw => hx w (List.mem_cons_of_mem _ hw)) (fun w hw => hy w (List.mem_cons_of_mem _ hw)) (by simp) (by simp) h2
        rw [h1,h3]
theorem two_list (x y : ByteArray) (s : UInt8) : (x ++ ⟨#[s]⟩ ++ y).data.toList = x.data.toList ++ s :: y.data.toList:=by
  rw [ByteArray.data_append,ByteArray.data_append,Array.toList_append,Array.toList_append]
  simp
theorem key_list (no sq of : Int) : (keyB no sq of).data.toList = decDigits no.toNat ++ 46 :: (decDigits sq.toNat ++ 46 :: decDigits of.toNat):=by
  unfold keyB
  rw [two_list,← numB_list no.toNat,← numB_list sq.toNat,← numB_list of.toNat,two_list]
  simp
theorem name_inj {j k : Int} (hj : 1 ≤ j ∧ j ≤ 7) (hk : 1 ≤ k ∧ k ≤ 7) (h : nameB j = nameB k) : j = k:=by
  have h1 : j = 1 ∨ j = 2 ∨ j = 3 ∨ j = 4 ∨ j = 5 ∨ j = 6 ∨ j = 7:=by omega
  have h2 : k = 1 ∨ k = 2 ∨ k = 3 ∨ k = 4 ∨ k = 5 ∨ k = 6 ∨ k = 7:=by omega
  rcases h1 with rfl|rfl|rfl|rfl|rfl|rfl|rfl <;> rcases h2 with rfl|rfl|rfl|rfl|rfl|rfl|rfl <;> first|rfl|exact absurd (congrArg ByteArray.data h) (by decide)
theorem name_ne (k : Int) : (32 : UInt8) ∉ (nameB k).data.toList:=by
  unfold nameB
  repeat (split;decide)
  decide
theorem parts_ne (f : Fr) : ∀ x ∈ (partsF f).map (·.data.toList),(32 : UInt8) ∉ x:=by
  have d:=fun u => dig_ne u 32 (by decide)
  have key : ∀ x ∈ partsF f,(32 : UInt8) ∉ x.data.toList:=by
    intro x hx
    have hopt : ∀ (b : Bool) (y : ByteArray),x ∈ optL b y → (32 : UInt8) ∉ y.data.toList → (32 : UInt8) ∉ x.data.toList:=fun b y hm hy => by
      cases b
      · exact absurd hm List.not_mem_nil
      · rw [List.mem_singleton.1 hm];exact hy
    unfold partsF at hx
    simp only [List.mem_append,List.mem_cons,List.not_mem_nil,or_false] at hx
    rcases hx with ((hx|hx)|hx)|hx
    · rcases hx with rfl|rfl|rfl
      · rw [two_list,numB_list,numB_list];simp [d]
      · rw [two_list,numB_list,numB_list];simp [d]
      · exact name_ne f.k
    · exact hopt _ _ hx (by rw [numB_list];exact d _)
    · exact hopt _ _ hx (by rw [numB_list];exact d _)
    · refine hopt _ _ hx ?_
      unfold keyF
      split <;> (rw [key_list];simp [d])
  intro x hx
  obtain ⟨y,hy,rfl⟩:=List.mem_map.1 hx
  exact key y hy
theorem bytes_inj {a b : ByteArray} (h : a.data.toList = b.data.toList) : a = b:=by
  apply ByteArray.ext
  exact Array.ext' h
theorem maps_inj : ∀ (xs ys : List ByteArray),xs.map (·.data.toList) = ys.map (·.data.toList) → xs = ys:=by
  intro xs
  induction xs with
  | nil =>
    intro ys h
    match ys with
    | [] => rfl
    | y :: ys => simp at h
  | cons x xs ih =>
    intro ys h
    match ys with
    | [] => simp at h
    | y :: ys =>
      simp only [List.map_cons,List.cons.injEq] at h
      rw [bytes_inj h.1,ih ys h.2]
theorem optL_inj (b : Bool) (x y : ByteArray) (r s : List ByteArray) (h : optL b x ++ r = optL b y ++ s) : (b = true → x = y) ∧ r = s:=by
  cases b
  · exact ⟨fun e => Bool.noConfusion e,h⟩
  · simp only [optL,cond_true,List.cons_append,List.nil_append,List.cons.injEq] at h
    exact ⟨fun _ => h.1,h.2⟩
theorem key_inj {no sq of no' sq' of' : Int} (h : keyB no sq of = keyB no' sq' of') : no.toNat = no'.toNat ∧ sq.toNat = sq'.toNat ∧ of.toNat = of'.toNat:=by
  have h1:=congrArg (fun b : ByteArray => b.data.toList) h
  simp only [key_list] at h1
  have d:=fun u => dig_ne u 46 (by decide)
  obtain ⟨h2,h3⟩:=cut_eq _ _ _ _ (d _) (d _) h1
  obtain ⟨h4,h5⟩:=cut_eq _ _ _ _ (d _) (d _) h3
  exact ⟨dig_inj h2,dig_inj h4,dig_inj h5⟩
theorem parts_inj {f g : Fr} (hf : 1 ≤ f.k ∧ f.k ≤ 7) (hg : 1 ≤ g.k ∧ g.k ≤ 7) (h : joinB (partsF f) = joinB (partsF g)) :
    f.k = g.k ∧ f.fr.toNat = g.fr.toNat ∧ f.to_.toNat = g.to_.toNat ∧ f.mi.toNat = g.mi.toNat ∧ f.yo.toNat = g.yo.toNat ∧ (hasA f.k = true → f.a.toNat = g.a.toNat) ∧ (hasB f.k = true → f.b.toNat = g.b.toNat) ∧ ((hasD f.k || hasI f.k) = true → keyF f = keyF g):=by
  have h1 : Lib.join ((partsF f).map (·.data.toList)) [32] = Lib.join ((partsF g).map (·.data.toList)) [32]:=by
    have:=congrArg (fun b : ByteArray => b.data.toList) h
    simpa [joinB] using this
  have h2:=join_inj _ _ (parts_ne f) (parts_ne g) (by simp [partsF]) (by simp [partsF]) h1
  have h3 : partsF f = partsF g:=by
    exact maps_inj _ _ h2
  unfold partsF at h3
  simp only [List.cons_append,List.nil_append,List.append_assoc,List.cons.injEq] at h3
  obtain ⟨p1,p2,p3,p4⟩:=h3
  have hk:=name_inj hf hg p3
  rw [← hk] at p4
  obtain ⟨q1,q2⟩:=optL_inj _ _ _ _ _ p4
  obtain ⟨q3,q4⟩:=optL_inj _ _ _ _ _ q2
  have q5:=(optL_inj _ _ _ [] [] (by simpa using q4)).1
  have w1:=congrArg (fun b : ByteArray => b.data.toList) p1
  have w2:=congrArg (fun b : ByteArray => b.data.toList) p2
  simp only [two_list,numB_list] at w1 w2
  obtain ⟨w3,w4⟩:=cut_eq _ _ _ _ (dig_ne _ _ (by decide)) (dig_ne _ _ (by decide)) w1
  obtain ⟨w5,w6⟩:=cut_eq _ _ _ _ (dig_ne _ _ (by decide)) (dig_ne _ _ (by decide)) w2
  have nl : ∀ {u v : Nat},numB u = numB v → u = v:=fun {u v} e => dig_inj (by rw [← numB_list,← numB_list,e])
  exact ⟨hk,dig_inj w3,dig_inj w4,dig_inj w5,dig_inj w6,fun e => nl (q1 e),fun e => nl (q3 e),q5⟩
theorem tn {a b : Int} (ha : 0 ≤ a) (hb : 0 ≤ b) (h : a.toNat = b.toNat) : a = b:=by omega
theorem fr_ext {f g : Fr} (h1 : f.k = g.k) (h2 : f.fr = g.fr) (h3 : f.to_ = g.to_) (h4 : f.mi = g.mi) (h5 : f.yo = g.yo) (h6 : f.a = g.a) (h7 : f.b = g.b) (h8 : f.ino = g.ino) (h9 : f.isq = g.isq) (h10 : f.iof = g.iof)
    (h11 : f.bno = g.bno) (h12 : f.bsq = g.bsq) (h13 : f.bof = g.bof) (h14 : f.bde = g.bde) (h15 : f.bpr = g.bpr) (h16 : f.bbo = g.bbo) (h17 : f.bli = g.bli) (h18 : f.bto = g.bto) (h19 : f.da = g.da) : f = g:=by
  cases f;cases g
  simp only at *
  subst h1 h2 h3 h4 h5 h6 h7 h8 h9 h10 h11 h12 h13 h14 h15 h16 h17 h18 h19
  rfl
theorem text_apart {f g : Fr} (hf : frC f = 0) (hg : frC g = 0) (nf : NN f) (ng : NN g) (hne : f ≠ g) (h : joinB (partsF f) = joinB (partsF g)) :
    f.k = 3 ∧ g.k = 3 ∧ f.bno = g.bno ∧ f.bsq = g.bsq ∧ f.bof = g.bof ∧ ¬ (f.bde = g.bde ∧ f.bpr = g.bpr ∧ f.bbo = g.bbo ∧ f.bli = g.bli ∧ f.bto = g.bto ∧ f.da = g.da):=by
  obtain ⟨hk,r,hb,c1,c2,c3,c4⟩:=frC_ok hf
  obtain ⟨hk',r',hb',c1',c2',c3',c4'⟩:=frC_ok hg
  obtain ⟨e1,e2,e3,e4,e5,e6,e7,e8⟩:=parts_inj hk hk' h
  clear hb hb' h
  obtain ⟨r1,r2,r3,r4,r5,r6,r7,r8,r9,r10,r11,r12⟩:=r
  obtain ⟨s1,s2,s3,s4,s5,s6,s7,s8,s9,s10,s11,s12⟩:=r'
  have n1:=nf.mi;have n2:=nf.yo;have n3:=nf.a;have n4:=nf.b;have n5:=nf.isq;have n6:=nf.bsq
  have m1:=ng.mi;have m2:=ng.yo;have m3:=ng.a;have m4:=ng.b;have m5:=ng.isq;have m6:=ng.bsq
  have one : (0 : Int) ≤ 1:=by decide
  have x1 : f.fr = g.fr:=tn (Int.le_trans one r1) (Int.le_trans one s1) e2
  have x2 : f.to_ = g.to_:=tn (Int.le_trans one r3) (Int.le_trans one s3) e3
  have x3 : f.mi = g.mi:=tn n1.1 m1.1 e4
  have x4 : f.yo = g.yo:=tn n2.1 m2.1 e5
  have x5 : f.a = g.a:=by
    by_cases q : f.k = 1
    · exact (c1 q).trans (c1' (e1.symm.trans q)).symm
    · exact tn n3.1 m3.1 (e6 (by simp [hasA,q]))
  have x6 : f.b = g.b:=by
    by_cases q : f.k = 3 ∨ f.k = 4 ∨ f.k = 6
    · exact tn n4.1 m4.1 (e7 (by simp [hasB,q]))
    · exact (c2 ⟨fun e => q (.inl e),fun e => q (.inr (.inl e)),fun e => q (.inr (.inr e))⟩).trans (c2' ⟨fun e => q (.inl (e1.trans e)),fun e => q (.inr (.inl (e1.trans e))),fun e => q (.inr (.inr (e1.trans e)))⟩).symm
  by_cases h3 : f.k = 3
  · have h3' : g.k = 3:=e1.symm.trans h3
    have hkey:=e8 (by simp [hasD,h3])
    unfold keyF at hkey
    rw [if_pos h3,if_pos h3'] at hkey
    obtain ⟨k1,k2,k3⟩:=key_inj hkey
    have o1:=keyF_ok f hf (by simp [hasD,h3])
    have o2:=keyF_ok g hg (by simp [hasD,h3'])
    rw [if_pos h3] at o1
    rw [if_pos h3'] at o2
    obtain ⟨o3,o4,o5,o6,o7⟩:=o1
    obtain ⟨o3',o4',o5',o6',o7'⟩:=o2
    have y1 : f.bno = g.bno:=tn (Int.le_trans one o3) (Int.le_trans one o3') k1
    have y2 : f.bsq = g.bsq:=tn n6.1 m6.1 k2
    have y3 : f.bof = g.bof:=tn o6 o6' k3
    refine ⟨h3,h3',y1,y2,y3,fun hh => hne ?_⟩
    obtain ⟨h4,h5,h6,h7,h8,h9⟩:=hh
    obtain ⟨i3,i4,i5⟩:=c3 ⟨by rw [h3];decide,by rw [h3];decide⟩
    obtain ⟨i3',i4',i5'⟩:=c3' ⟨by rw [h3'];decide,by rw [h3'];decide⟩
    exact fr_ext e1 x1 x2 x3 x4 x5 x6 (i3.trans i3'.symm) (i4.trans i4'.symm) (i5.trans i5'.symm) y1 y2 y3 h4 h5 h6 h7 h8 h9
  · refine absurd ?_ hne
    have h3' : ¬ g.k = 3:=fun e => h3 (e1.trans e)
    obtain ⟨b3,b4,b5,b6,b7,b8,b9,b10,b11⟩:=c4 h3
    obtain ⟨b3',b4',b5',b6',b7',b8',b9',b10',b11'⟩:=c4' h3'
    have z : f.ino = g.ino ∧ f.isq = g.isq ∧ f.iof = g.iof:=by
      by_cases q : f.k = 5 ∨ f.k = 6
      · have hkey:=e8 (by simp [hasI,q])
        unfold keyF at hkey
        rw [if_neg h3,if_neg h3'] at hkey
        obtain ⟨k1,k2,k3⟩:=key_inj hkey
        have o1:=keyF_ok f hf (by simp [hasI,q])
        have o2:=keyF_ok g hg (by rw [← e1];simp [hasI,q])
        rw [if_neg h3] at o1
        rw [if_neg h3'] at o2
        obtain ⟨o3,o4,o5,o6,o7⟩:=o1
        obtain ⟨o3',o4',o5',o6',o7'⟩:=o2
        exact ⟨tn (Int.le_trans one o3) (Int.le_trans one o3') k1,tn n5.1 m5.1 k2,tn o6 o6' k3⟩
      · obtain ⟨i3,i4,i5⟩:=c3 ⟨fun e => q (.inl e),fun e => q (.inr e)⟩
        obtain ⟨i3',i4',i5'⟩:=c3' ⟨fun e => q (.inl (e1.trans e)),fun e => q (.inr (e1.trans e))⟩
        exact ⟨i3.trans i3'.symm,i4.trans i4'.symm,i5.trans i5'.symm⟩
    exact fr_ext e1 x1 x2 x3 x4 x5 x6 z.1 z.2.1 z.2.2 (b3.trans b3'.symm) (b4.trans b4'.symm) (b5.trans b5'.symm) (b6.trans b6'.symm) (b7.trans b7'.symm) (b8.trans b8'.symm) (b9.trans b9'.symm) (b10.trans b10'.symm) (b11.trans b11'.symm)
end Go.Proofs.YtaiofjffoboicaaDoor
namespace Go.Proofs.YtaiofjffoboicaaDoor
open Go.RowKit
set_option maxRecDepth 100000 in
set_option maxHeartbeats 800000 in
theorem data_any (w : World) : Calls Tryd.prog 21 #[] w fun e w' => e = .returned (.agg #[.int .i64 3,.int .i64 1,.int .i64 2,.int .u64 3,.int .u64 4,.int .u64 5,.int .u64 5,.int .i64 0,.int .u64 0,.int .i64 0,.int .i64 1,.int .u64 7,.int .i64 0,.int .i64 3,.int .i64 0,.int .i64 5,.int .i64 9,.int .i64 2,.string ⟨#[97,98]⟩]) ∧ Below w.heap.size w w':=by
  go_enter Tryd.func21,Tryd.ntmps21
  go_upto_region 2 with fail
  refine wp_region_lit ?_
  refine wpList_load_blk 27 (.tmp 1) (w.heap.size + 1) #[.int .i64 1,.int .u64 7,.int .i64 0,.int .i64 3,.int .i64 0,.int .i64 5,.int .i64 9,.int .i64 2,.string ⟨#[97,98]⟩] (by (apply jt;(focus repeat(first|(with_reducible first|assumption|apply jd|apply js)|((with_reducible apply jo);first|focus(dsimp only;assumption)|focus(simp;done)|focus(dsimp only;omega))|((with_reducible apply jn);first|with_reducible rfl|focus(simp;done)|focus(simp;omega))|(with_reducible apply ja)|((with_reducible apply jb);with_reducible assumption)));kernel_rfl)) _ rfl rfl rfl Tryd.underlying27 rfl (by kernel_rfl) ?_
  conv => arg 5;simp [Act.put]
  refine wpList_build_is 29 _ #[.int .i64 3,.int .i64 1,.int .i64 2,.int .u64 3,.int .u64 4,.int .u64 5,.int .u64 5,.int .i64 0,.int .u64 0,.int .i64 0,.int .i64 1,.int .u64 7,.int .i64 0,.int .i64 3,.int .i64 0,.int .i64 5,.int .i64 9,.int .i64 2,.string ⟨#[97,98]⟩] rfl rfl (by kernel_rfl) ?_
  conv => arg 5;simp [Act.put]
  refine wpList_store_blk 29 (.tmp 0) (.tmp 5) w.heap.size #[.int .i64 0,.int .i64 0,.int .i64 0,.int .u64 0,.int .u64 0,.int .u64 0,.int .u64 0,.int .i64 0,.int .u64 0,.int .i64 0,.int .i64 0,.int .u64 0,.int .i64 0,.int .i64 0,.int .i64 0,.int .i64 0,.int .i64 0,.int .i64 0,.string ⟨#[]⟩] #[.int .i64 3,.int .i64 1,.int .i64 2,.int .u64 3,.int .u64 4,.int .u64 5,.int .u64 5,.int .i64 0,.int .u64 0,.int .i64 0,.int .i64 1,.int .u64 7,.int .i64 0,.int .i64 3,.int .i64 0,.int .i64 5,.int .i64 9,.int .i64 2,.string ⟨#[97,98]⟩] (by (apply jt;(focus repeat(first|(with_reducible first|assumption|apply jd|apply js)|((with_reducible apply jo);first|focus(dsimp only;assumption)|focus(simp;done)|focus(dsimp only;omega))|((with_reducible apply jn);first|with_reducible rfl|focus(simp;done)|focus(simp;omega))|(with_reducible apply ja)|((with_reducible apply jb);with_reducible assumption)));rfl)) rfl rfl rfl rfl (by kernel_rfl) rfl (by kernel_rfl) ?_
  intro w5 kb5 o5 B5 s5
  conv => arg 5;simp [Act.put]
  go_wp2
  exact ret_row 0 29 _ kb5 rfl rfl Tryd.underlying29 rfl (by kernel_rfl) rfl ⟨rfl,B5 _ _ (Nat.le_refl _) (by (repeat(first|(with_reducible first|assumption|exact Below.refl _ _|refine je ?_|refine jl ?_)|((with_reducible refine jp ?_ ?_);first|focus(dsimp only;assumption)|focus(simp;done)|focus(dsimp only;omega))|(with_reducible refine bt ?_ (by assumption)))))⟩
set_option maxRecDepth 100000 in
set_option maxHeartbeats 800000 in
theorem ack_any (a : Int) (w : World) : Calls Tryd.prog 22 #[.int .u64 a] w fun e w' => e = .returned (.agg #[.int .i64 5,.int .i64 2,.int .i64 1,.int .u64 4,.int .u64 3,.int .u64 a,.int .u64 0,.int .i64 1,.int .u64 7,.int .i64 0,.int .i64 0,.int .u64 0,.int .i64 0,.int .i64 0,.int .i64 0,.int .i64 0,.int .i64 0,.int .i64 0,.string ⟨#[]⟩]) ∧ Below w.heap.size w w':=by
  go_enter Tryd.func22,Tryd.ntmps22
  go_upto_region 1 with fail
  refine wp_region_tail0 2 ?_
  intro W0 hE hN
  have kz0 : blk W0 w.heap.size = some #[.int .i64 0,.int .i64 0,.int .i64 0,.int .u64 0,.int .u64 0,.int .u64 0,.int .u64 0,.int .i64 0,.int .u64 0,.int .i64 0,.int .i64 0,.int .u64 0,.int .i64 0,.int .i64 0,.int .i64 0,.int .i64 0,.int .i64 0,.int .i64 0,.string ⟨#[]⟩]:=(by rw [hE.out];(apply jt;(focus repeat(first|(with_reducible first|assumption|apply jd|apply js)|((with_reducible apply jo);first|focus(dsimp only;assumption)|focus(simp;done)|focus(dsimp only;omega))|((with_reducible apply jn);first|with_reducible rfl|focus(simp;done)|focus(simp;omega))|(with_reducible apply ja)|((with_reducible apply jb);with_reducible assumption)));rfl))
  have hw0 : Below w.heap.size w W0:=(by rw [hE.out];(repeat(first|(with_reducible first|assumption|exact Below.refl _ _|refine je ?_|refine jl ?_)|((with_reducible refine jp ?_ ?_);first|focus(dsimp only;assumption)|focus(simp;done)|focus(dsimp only;omega))|(with_reducible refine bt ?_ (by assumption)))))
  clear hE
  simp only [List.take_succ_cons,List.take_zero,List.drop_succ_cons,List.drop_zero]
  repeat (go_big_quiet_step (fail))
  refine wpQuiet_nil ?_
  rintro _ ⟨x,rfl⟩
  have kz1:=blk_below x.ok kz0
  have hw1 : Below w.heap.size w x.wd:=hw0.trans (x.ok.mono hw0.size)
  refine wpList_build_is 29 _ #[.int .i64 5,.int .i64 2,.int .i64 1,.int .u64 4,.int .u64 3,.int .u64 a,.int .u64 0,.int .i64 1,.int .u64 7,.int .i64 0,.int .i64 0,.int .u64 0,.int .i64 0,.int .i64 0,.int .i64 0,.int .i64 0,.int .i64 0,.int .i64 0,.string ⟨#[]⟩] rfl rfl (by kernel_rfl) ?_
  conv => arg 5;simp [Act.put]
  refine wpList_store_blk 29 (.tmp 2) (.tmp 5) w.heap.size #[.int .i64 0,.int .i64 0,.int .i64 0,.int .u64 0,.int .u64 0,.int .u64 0,.int .u64 0,.int .i64 0,.int .u64 0,.int .i64 0,.int .i64 0,.int .u64 0,.int .i64 0,.int .i64 0,.int .i64 0,.int .i64 0,.int .i64 0,.int .i64 0,.string ⟨#[]⟩] #[.int .i64 5,.int .i64 2,.int .i64 1,.int .u64 4,.int .u64 3,.int .u64 a,.int .u64 0,.int .i64 1,.int .u64 7,.int .i64 0,.int .i64 0,.int .u64 0,.int .i64 0,.int .i64 0,.int .i64 0,.int .i64 0,.int .i64 0,.int .i64 0,.string ⟨#[]⟩] kz1 rfl rfl rfl rfl (by kernel_rfl) rfl (by kernel_rfl) ?_
  intro w5 kb5 o5 B5 s5
  conv => arg 5;simp [Act.put]
  go_wp2
  exact ret_row 2 29 _ kb5 rfl rfl Tryd.underlying29 rfl (by kernel_rfl) rfl ⟨rfl,B5 _ _ (Nat.le_refl _) hw1⟩
def dataA (a : Int) : Fr:=⟨3,1,2,3,4,a,5,0,0,0,1,7,0,3,0,5,9,2,⟨#[97,98]⟩⟩
theorem dataA_ok (a : Int) (h : 5 ≤ a) (h2 : a ≤ 100) : frC (dataA a) = 0:=by
  refine frC_of (by unfold dataA;simp) ?_ ?_ ?_
  · unfold rngF dataA;simp only;omega
  · rfl
  · unfold clnF dataA;simp
theorem ackF_ok (a : Int) (h : 0 ≤ a) (h2 : a ≤ 100) : frC (ackF a) = 0:=by
  refine frC_of (by unfold ackF;simp) ?_ ?_ ?_
  · unfold rngF ackF;simp only;omega
  · rfl
  · unfold clnF ackF;simp
theorem ans_data (a o : Int) (h : 5 ≤ a) (h2 : a ≤ 100) (h3 : 0 ≤ o) (h4 : o ≤ 100) : ansV (dataA a) (ackF o) = (decide (o = a),0):=by
  unfold ansV
  rw [if_neg (by rw [dataA_ok a h h2];simp),if_neg (by rw [ackF_ok o h3 h4];simp),if_neg (by simp [dataA])]
  unfold ansB dataA ackF
  simp
end Go.Proofs.YtaiofjffoboicaaDoor
