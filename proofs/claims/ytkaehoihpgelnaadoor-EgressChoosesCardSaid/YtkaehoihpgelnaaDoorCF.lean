/- Parts of a proof, printed by a program of mine out of my texts: EgFn, EgGd, EgAllX. -/
import Derived.Maps.AppendAt
import Derived.Test.YtkaehoihpgelnaaDoorCH
import Derived.Test.YtkaehoihpgelnaaDoorCM
import Derived.Test.YtkaehoihpgelnaaDoorCR
set_option linter.unusedSimpArgs false
set_option linter.unusedVariables false
set_option maxRecDepth 100000
namespace Go.Proofs.YtkaehoihpgelnaaDoor
open Go.RowKit
def opnW (r : Rr) (ps : List Int) (l : List Bn) (us bu by' : Int) : Wy:=⟨r,ps,l,[queS l 0,queS l 1,queS l 2],sizesE l,us,bu,by'⟩
structure OpnG (r : Rr) (ps : List Int) (l : List Bn) (us bu by' : Int) : Prop where
  len : l.length ≤ 20
  chk : chkX r ps = 0
  lst : lstE l = 0
  sq : ∀ x ∈ l,0 ≤ x.sq
  us0 : 0 ≤ us ∧ us ≤ 18446744073709551615
  bu0 : 0 ≤ bu ∧ bu ≤ 9223372036854775807
  by0 : 0 ≤ by' ∧ by' ≤ 100
theorem lstE_codes {l : List Bn} (h : lstE l = 0) : ∀ x ∈ l,bcode x = 0:=by
  intro x hx
  refine Classical.byContradiction fun hc => ?_
  have h1 : fltE l ≠ 0:=by
    unfold fltE
    cases hf : l.find? (fun b => decide (bcode b ≠ 0)) with
    | none => exact absurd (List.find?_eq_none.1 hf x hx) (by simp [hc])
    | some y => have:=List.find?_some hf;simpa using this
  unfold lstE at h
  rw [if_pos h1] at h
  split at h
  · cases h
  · exact h1 h
theorem bcode_facts {b : Bn} (h : bcode b = 0) : BnI b ∧ (0 ≤ b.pr ∧ b.pr ≤ 2) ∧ b.da.size ≤ maxLen ∧ (1 ≤ szB b ∧ szB b ≤ 1200):=by
  have h' : buC b.no b.sq b.of b.de b.pr b.bo b.li b.to b.da.size = 0:=h
  obtain ⟨h1,h2,h3,h4,h5⟩:=buC_ok h'
  refine ⟨⟨by unfold I64;omega,by unfold I64;omega⟩,by omega,by unfold maxLen;omega,?_⟩
  have e : szB b = ((szN (frLen b.no.toNat b.sq.toNat b.of.toNat b.de.toNat b.pr.toNat b.bo.toNat b.li.toNat b.to.toNat (wholeB b.of b.to (b.da.size : Int).toNat)) (b.da.size : Int).toNat : Nat) : Int):=by
    unfold szB sizeC;rw [if_pos h']
  rw [e]
  have h9:=frLen_le b.no.toNat b.sq.toNat b.of.toNat b.de.toNat b.pr.toNat b.bo.toNat b.li.toNat b.to.toNat (wholeB b.of b.to (b.da.size : Int).toNat)
  have h8:=putN_length (b.da.size : Int).toNat
  unfold szN
  omega
theorem chkX_zero {r : Rr} {ps : List Int} (h : chkX r ps = 0) : okD r ∧ ps.length = 3 ∧ okP ps:=by
  unfold chkX at h
  split at h
  · rename_i h1;exact absurd h h1
  · rename_i h1
    split at h
    · cases h
    · rename_i h2
      split at h
      · rename_i h3;exact ⟨chkD_zero (by simpa using h1),by simpa using h2,h3⟩
      · cases h
theorem opnW_gd {r : Rr} {ps : List Int} {l : List Bn} {us bu by' : Int} (h : OpnG r ps l us bu by') : GdW (opnW r ps l us bu by'):=by
  obtain ⟨h1,h2,h3⟩:=chkX_zero h.chk
  refine ⟨h1,h2,rfl,fun p h0 h2 i hi => ?_,fun i hi => ?_⟩
  · have e : quA (opnW r ps l us bu by') p = queS l p:=by rcases (by omega : p = 0 ∨ p = 1 ∨ p = 2) with rfl|rfl|rfl <;> rfl
    rw [e] at hi
    obtain ⟨n,hn,hl,hp⟩:=queS_mem.1 hi
    exact ⟨n,hn,hl,by rw [hn];show (bnL l n).pr = p;rw [bnL_nat l n hl];exact hp⟩
  · show 1 ≤ at3 (sizesE l) i ∧ at3 (sizesE l) i ≤ 1200
    rw [sizesE_at l i hi]
    exact (bcode_facts (lstE_codes h.lst _ (List.getElem_mem hi))).2.2.2
theorem opnW_sz (r : Rr) (ps : List Int) (l : List Bn) (us bu by' : Int) : (opnW r ps l us bu by').sz.length = (opnW r ps l us bu by').l.length:=by
  show (sizesE l).length = l.length
  unfold sizesE;rw [List.length_map]
theorem open_any {r : Rr} {ps : List Int} {l : List Bn} {us bu by' : Int} (h : OpnG r ps l us bu by') (c : Array Value) (al : Option Addr) (cl : Nat) (w : World) (hT : HTab w) (S : Nat → Prop) (hS : ∀ b,S b → b < w.heap.size) (hX : ExitS S w c r ps) (hrow : SRow bn 9 w al cl l) (nl : neS S al l) :
    Calls Tryd.prog 38 #[.agg c,.slice al l.length cl,.int .u64 us,.int .i64 bu,.int .i64 by'] w fun e w' => RetO S (opnW r ps l us bu by') w e w':=by
  obtain ⟨aw,cw,ad,cd,ap,cp,rfl,h1,h2,h3,n1,n2,n3⟩:=hX
  obtain ⟨ws,ds,q,t⟩:=r
  obtain ⟨⟨k1,k2,_⟩,k3,_⟩:=chkX_zero h.chk
  have hb:=fun x hx => bcode_facts (lstE_codes h.lst x hx)
  exact open_ok aw cw ad cd ap cp ws ds q t ps al cl l us bu by' h.len (fun x hx => (hb x hx).1) (fun x hx => (hb x hx).2.1) (fun x hx => (hb x hx).2.2.1) h.sq k1 k2 k3 h.chk h.lst h.bu0.1 h.by0 w hT h1 h2 h3 hrow S hS n1 n2 nl
theorem choose_any (c : Array Value) (x : Wy) (hg : GdW x) (hlz : x.sz.length = x.l.length) (hps : okP x.ps) (hby : x.by' ≤ 100) (S : Nat → Prop) (w : World) (hS : ∀ b,S b → b < w.heap.size) (hW : WayS S w c x) :
    Calls Tryd.prog 39 #[.agg c] w fun e w' => RetH S x w e w':=by
  by_cases h : linD x.dr (headsS x) = 0
  · exact choose_go c x hg hlz hps hby S w hS hW h
  · exact choose_bad c x hg hlz S w hS hW h
def RetCa (L : List Int) (w : World) (e : Ending) (w' : World) : Prop:=∃ a1 c1,e = .returned (.tuple #[.slice a1 3 c1,.int .i64 0]) ∧ SRow ic 1 w' a1 c1 L ∧ Below w.heap.size w w'
set_option maxHeartbeats 3200000 in
theorem cands_any {r : Rr} {ps : List Int} {l : List Bn} {us bu by' : Int} (h : OpnG r ps l us bu by') (c : Array Value) (al : Option Addr) (cl : Nat) (w : World) (hT : HTab w) (hX : ExitS (fun _ => False) w c r ps) (hrow : SRow bn 9 w al cl l) :
  Calls Tryd.prog 29 #[.agg c,.slice al l.length cl,.int .u64 us,.int .i64 bu,.int .i64 by'] w fun e w' => RetCa (candsS (opnW r ps l us bu by')) w e w':=by
 have HO:=Lib.hid (fun W (hB : Below w.heap.size w W) => open_any h c al cl W (hT.on hB) (fun _ => False) (fun _ h => h.elim) (hX.below hB) (hrow.below hB) (fun _ _ _ _ h => h))
 have HC:=Lib.hid (fun (c' : Array Value) (W : World) (hW : WayAt W c' (opnW r ps l us bu by')) => cand_ok c' _ (opnW_gd h) (opnW_sz r ps l us bu by') W hW)
 obtain ⟨aw,cw,ad,cd,ap,cp,rfl,_⟩:=hX
 obtain ⟨x,hx⟩ : ∃ x,x = opnW r ps l us bu by':=⟨_,rfl⟩
 rw [← hx] at HO HC ⊢
 obtain ⟨rq,hrq⟩ : ∃ v,v = r.q:=⟨_,rfl⟩
 obtain ⟨rt,hrt⟩ : ∃ v,v = r.t:=⟨_,rfl⟩
 obtain ⟨n,hn⟩ : ∃ v,v = l.length:=⟨_,rfl⟩
 rw [← hrq,← hrt,← hn] at HO ⊢
 have t1 : ((0 : Int) != 0) = false:=rfl
 clear hx hrq hrt hn hrow hT h
 go_enter Tryd.func29,Tryd.ntmps29
 go_upto_region 1 with fail
 refine wp_region_tail0 0 ?_
 intro W0 hE hN
 have k0 : blk W0 w.heap.size = some #[.slice aw 3 cw,.int .i64 rq,.slice ad 3 cd,.int .i64 rt,.slice ap 3 cp]:=(by rw [hE.out];exact blk_alloc_new _ _ _ rfl)
 have b0 : Below w.heap.size w W0:=(by rw [hE.out];(repeat(first|(with_reducible first|assumption|exact Below.refl _ _|refine je ?_|refine jl ?_)|((with_reducible refine jp ?_ ?_);first|focus(dsimp only;assumption)|focus(simp;done)|focus(dsimp only;omega))|(with_reducible refine bt ?_ (by assumption)))))
 clear hE
 simp only [List.take_succ_cons,List.take_zero,List.drop_succ_cons,List.drop_zero]
 refine wpQuiet_nil ?_
 rintro _ ⟨x',rfl⟩
 have k1:=blk_below x'.ok k0
 have b1:=bt b0 x'.ok
 obtain ⟨u,hu⟩ : ∃ u,u = x'.wd:=⟨_,rfl⟩
 rw [← hu] at k1 b1 ⊢
 clear hu x' hN k0 b0
 refine wpList_load_mid rfl 28 (.tmp 5) rfl w.heap.size 0 rfl [.slice aw 3 cw,.int .i64 rq,.slice ad 3 cd,.int .i64 rt,.slice ap 3 cp] _ (range_of_blk k1 0 _ rfl) Tryd.underlying28 rfl (by kernel_rfl) ?_
 conv => arg 5;simp [Act.put]
 clear k1
 go_wp2_with (first|(go_at_call 38;(with_reducible refine (HO.out _ b1).mono ?_);rintro e u2 ⟨cc,rfl,hW2,h2⟩;(have b2:=bt b1 h2);(have HW:=Lib.hid hW2.at);obtain ⟨aw',cw',ad',cd',ap',cp',al',cl',ob',cq',az',cz',rfl,_⟩:=hW2;clear h2)|(go_at_call 55;(with_reducible refine (HC.out _ _ (HW.out.below ((Below.refl _ _).alloc (Nat.le_refl _) _))).mono ?_);rintro e u4 ⟨f1,g1,f2,g2,rfl,F1,F2,h4⟩))
 go_ret2
 exact ⟨f1,g1,rfl,F1,bt (b2.alloc b2.size _) h4⟩
def RetCh (S : Nat → Prop) (x : Wy) (w : World) (e : Ending) (w' : World) : Prop:=Below w.heap.size w w' ∧
  (((chooseS x).2.2 ≠ 0 ∧ e = .returned (.tuple #[.int .i64 0,.agg #[.slice none 0 0,.int .i64 0,.slice none 0 0,.int .i64 0,.slice none 0 0],.int .i64 (chooseS x).2.2])) ∨
   ((chooseS x).2.2 = 0 ∧ ∃ c,e = .returned (.tuple #[.int .i64 (chooseS x).1,.agg c,.int .i64 0]) ∧ ExitS S w' c (chooseS x).2.1.dr (chooseS x).2.1.ps))
theorem WayS.exit {S : Nat → Prop} {W : World} {aw cw ad cd ap cp al cl ob cq az cz : _} {nl nz : Nat} {rq rt us bu by' : Int} {x : Wy}
    (h : WayS S W #[.slice aw 3 cw,.int .i64 rq,.slice ad 3 cd,.int .i64 rt,.slice ap 3 cp,.slice al nl cl,.slice ob 3 cq,.slice az nz cz,.int .u64 us,.int .i64 bu,.int .i64 by'] x) : ExitS S W #[.slice aw 3 cw,.int .i64 rq,.slice ad 3 cd,.int .i64 rt,.slice ap 3 cp] x.dr x.ps:=by
  obtain ⟨aw',cw',ad',cd',ap',cp',al',cl',ob',cq',az',cz',e,h1,h2,h3,h4,h5,h6,h7,h8,n1,n2,n3,n4,n5⟩:=h
  simp only [Array.mk.injEq,List.cons.injEq,Value.slice.injEq,Value.int.injEq,true_and] at e
  obtain ⟨⟨rfl,rfl⟩,rfl,⟨rfl,rfl⟩,rfl,⟨rfl,rfl⟩,_⟩:=e
  exact ⟨_,_,_,_,_,_,rfl,h3,h4,h5,n1,n2,n3⟩
theorem rangeS5 {W : World} {b : Nat} {v0 v1 v2 v3 v4 : Value} {r : List Value} (h : ∀ o,W.cell? ⟨b,o,none⟩ = (v0 :: v1 :: v2 :: v3 :: v4 :: r).toArray[o]?) : W.rangeAt b 0 [v0,v1,v2,v3,v4]:=fun j v hj => by
  rw [Nat.zero_add,h j,List.getElem?_toArray]
  match j,hj with
  | 0,hj => exact hj
  | 1,hj => exact hj
  | 2,hj => exact hj
  | 3,hj => exact hj
  | 4,hj => exact hj
theorem wp_freshS {P : Program} {cd : Code} {Q : Exit → Act → World → Prop} {a : Act} {W u w0 : World} {B : Nat} (g : Nat) (c : Array Value) (h1 : blk W g = some c) (hS : SameB g u W) (hB : Below B w0 W)
    (h : ∀ w',blk w' g = some c → SameB g u w' → Below B w0 w' → cd.wp P Q a w') : cd.wp P Q a W:=h W h1 hS hB
set_option maxHeartbeats 3200000 in
theorem chooseX_any {r : Rr} {ps : List Int} {l : List Bn} {us bu by' : Int} (h : OpnG r ps l us bu by') (c : Array Value) (al : Option Addr) (cl : Nat) (w : World) (hT : HTab w) (S : Nat → Prop) (hS : ∀ b,S b → b < w.heap.size) (hX : ExitS S w c r ps) (hrow : SRow bn 9 w al cl l) (nl : neS S al l) :
  Calls Tryd.prog 30 #[.agg c,.slice al l.length cl,.int .u64 us,.int .i64 bu,.int .i64 by'] w fun e w' => RetCh S (opnW r ps l us bu by') w e w':=by
 have HO:=Lib.hid (fun W (hB : Below w.heap.size w W) (h2 : w.heap.size + 2 ≤ W.heap.size) => open_any h c al cl W (hT.on hB) (or2 S w.heap.size (w.heap.size + 1)) (by rintro b (rfl|rfl|hb) <;> (try have h9:=hS b hb) <;> omega) ((hX.or (Nat.le_refl _) (Nat.le_succ _)).below hB) (hrow.below hB) (nl.or hrow (Nat.le_refl _) (Nat.le_succ _)))
 have h3:=chkX_zero h.chk
 have HC:=Lib.hid (fun (c' : Array Value) (S : Nat → Prop) (W : World) (hS : ∀ b,S b → b < W.heap.size) (hW : WayS S W c' (opnW r ps l us bu by')) => choose_any c' _ (opnW_gd h) (opnW_sz r ps l us bu by') h3.2.2 h.by0.2 S W hS hW)
 have HS:=Lib.hid hS
 obtain ⟨aw,cw,ad,cd,ap,cp,rfl,_⟩:=hX
 obtain ⟨x,hx⟩ : ∃ x,x = opnW r ps l us bu by':=⟨_,rfl⟩
 rw [← hx] at HO HC ⊢
 obtain ⟨rq,hrq⟩ : ∃ v,v = r.q:=⟨_,rfl⟩
 obtain ⟨rt,hrt⟩ : ∃ v,v = r.t:=⟨_,rfl⟩
 obtain ⟨n,hn⟩ : ∃ v,v = l.length:=⟨_,rfl⟩
 rw [← hrq,← hrt,← hn] at HO ⊢
 have t1 : ((0 : Int) != 0) = false:=rfl
 obtain ⟨i,hi⟩ : ∃ v,(chooseS x).1 = v:=⟨_,rfl⟩
 obtain ⟨err,he⟩ : ∃ v,(chooseS x).2.2 = v:=⟨_,rfl⟩
 obtain ⟨y,hy⟩ : ∃ v,(chooseS x).2.1 = v:=⟨_,rfl⟩
 have FE : Hid (err ≠ 0 → ∀ T,Below w.heap.size w T → RetCh S x w (.returned (.tuple #[.int .i64 0,.agg #[.slice none 0 0,.int .i64 0,.slice none 0 0,.int .i64 0,.slice none 0 0],.int .i64 err])) T):=Lib.hid (fun h T hB => ⟨hB,.inl ⟨by rw [he];exact h,by rw [he]⟩⟩)
 have FO : Hid (err = 0 → ∀ T c,Below w.heap.size w T → ExitS S T c y.dr y.ps → RetCh S x w (.returned (.tuple #[.int .i64 i,.agg c,.int .i64 0])) T):=Lib.hid (fun h T c hB hE => ⟨hB,.inr ⟨by rw [he];exact h,c,by rw [hi],by rw [hy];exact hE⟩⟩)
 have HC2 : Hid (∀ (c' : Array Value) (S : Nat → Prop) (W : World) (hS : ∀ b,S b → b < W.heap.size) (hW : WayS S W c' x),Calls Tryd.prog 39 #[.agg c'] W fun e w' => ∃ c2,e = .returned (.tuple #[.int .i64 i,.agg c2,.int .i64 err]) ∧ WayS S w' c2 y ∧ Below W.heap.size W w'):=Lib.hid (fun c' S W h1 h2 => by
  have h9:=HC.out c' S W h1 h2
  unfold RetH at h9
  rw [hi,he,hy] at h9
  exact h9)
 clear hx hrq hrt hn hrow hT h nl hS h3 HC hi he hy
 go_enter Tryd.func30,Tryd.ntmps30
 go_upto_region 1 with fail
 refine wp_region_tail0 0 ?_
 intro W0 hE hN
 have k0 : blk W0 w.heap.size = some #[.slice aw 3 cw,.int .i64 rq,.slice ad 3 cd,.int .i64 rt,.slice ap 3 cp]:=(by rw [hE.out];(apply jt;(focus repeat(first|(with_reducible first|assumption|apply jd|apply js)|((with_reducible apply jo);first|focus(dsimp only;assumption)|focus(simp;done)|focus(dsimp only;omega))|((with_reducible apply jn);first|with_reducible rfl|focus(simp;done)|focus(simp;omega))|(with_reducible apply ja)|((with_reducible apply jb);with_reducible assumption)));rfl))
 have z0 : blk W0 (w.heap.size + 1) = some #[.slice none 0 0,.int .i64 0,.slice none 0 0,.int .i64 0,.slice none 0 0]:=(by rw [hE.out];(apply jt;(focus repeat(first|(with_reducible first|assumption|apply jd|apply js)|((with_reducible apply jo);first|focus(dsimp only;assumption)|focus(simp;done)|focus(dsimp only;omega))|((with_reducible apply jn);first|with_reducible rfl|focus(simp;done)|focus(simp;omega))|(with_reducible apply ja)|((with_reducible apply jb);with_reducible assumption)));rfl))
 have b0 : Below w.heap.size w W0:=(by rw [hE.out];(repeat(first|(with_reducible first|assumption|exact Below.refl _ _|refine je ?_|refine jl ?_)|((with_reducible refine jp ?_ ?_);first|focus(dsimp only;assumption)|focus(simp;done)|focus(dsimp only;omega))|(with_reducible refine bt ?_ (by assumption)))))
 clear hE
 simp only [List.take_succ_cons,List.take_zero,List.drop_succ_cons,List.drop_zero]
 refine wpQuiet_nil ?_
 rintro _ ⟨x',rfl⟩
 have k1:=blk_below x'.ok k0
 have z1:=blk_below x'.ok z0
 have b1:=bt b0 x'.ok
 obtain ⟨u,hu⟩ : ∃ u,u = x'.wd:=⟨_,rfl⟩
 rw [← hu] at k1 z1 b1 ⊢
 clear hu x' hN k0 z0 b0
 have l1 : w.heap.size + 2 ≤ u.heap.size:=blk_lt z1
 refine wpList_load_mid rfl 28 (.tmp 5) rfl w.heap.size 0 rfl [.slice aw 3 cw,.int .i64 rq,.slice ad 3 cd,.int .i64 rt,.slice ap 3 cp] _ (range_of_blk k1 0 _ rfl) Tryd.underlying28 rfl (by kernel_rfl) ?_
 conv => arg 5;simp [Act.put]
 clear k1
 go_upto_region 3 with (first|(go_at_call 38;(with_reducible refine (HO.out _ b1 l1).mono ?_);rintro e u2 ⟨cc,rfl,hW2,h2⟩;(have b2:=bt b1 h2);(have z2:=blk_below h2 z1);(have HW:=Lib.hid hW2);obtain ⟨aw',cw',ad',cd',ap',cp',al',cl',ob',cq',az',cz',rfl,_⟩:=hW2;clear h2 z1 b1 l1)|fail)
 go_upto_region 4 with fail
 obtain ⟨V,eV⟩ : ∃ v,v = u2.alloc (.cells #[.slice aw' 3 cw',.int .i64 x.dr.q,.slice ad' 3 cd',.int .i64 x.dr.t,.slice ap' 3 cp',.slice al' x.l.length cl',.slice (some ⟨ob',0,none⟩) 3 cq',.slice az' x.sz.length cz',.int .u64 x.us,.int .i64 x.bu,.int .i64 x.by'] 70):=⟨_,rfl⟩
 obtain ⟨g,eg⟩ : ∃ v,v = u2.heap.size:=⟨_,rfl⟩
 have hV : Below u2.heap.size u2 V:=(by rw [eV];exact (Below.refl _ _).alloc (Nat.le_refl _) _)
 have kV : blk V g = some #[.slice aw' 3 cw',.int .i64 x.dr.q,.slice ad' 3 cd',.int .i64 x.dr.t,.slice ap' 3 cp',.slice al' x.l.length cl',.slice (some ⟨ob',0,none⟩) 3 cq',.slice az' x.sz.length cz',.int .u64 x.us,.int .i64 x.bu,.int .i64 x.by']:=(by rw [eV];exact blk_alloc_new _ _ _ eg)
 have zV:=blk_below hV z2
 have bV:=bt b2 hV
 have lg : w.heap.size + 1 < g:=(by rw [eg];exact blk_lt z2)
 have WV : WayS (or2 (or2 S w.heap.size (w.heap.size + 1)) g g) V _ x:=(HW.out.or (Nat.le_of_eq eg.symm) (Nat.le_of_eq eg.symm)).below hV
 have hSV : ∀ b,or2 (or2 S w.heap.size (w.heap.size + 1)) g g b → b < V.heap.size:=(by
  have:=blk_lt kV
  rintro b (rfl|rfl|rfl|rfl|hb) <;> (try have h9:=HS.out b hb) <;> (try have h8:=bV.size) <;> omega)
 rw [← eV,← eg]
 have GC:=Lib.hid (HC2.out _ _ V hSV WV)
 clear eV eg hV z2 b2 HW WV hSV HC2 HO
 (with_reducible refine (GC.out).mono ?_)
 rintro e u4 ⟨cc,rfl,hW4,h4⟩
 have b4:=bt bV h4
 have z4:=blk_below h4 zV
 have k4:=blk_below h4 kV
 have W4:=Lib.hid hW4
 obtain ⟨aw2,cw2,ad2,cd2,ap2,cp2,al2,cl2,ob2,cq2,az2,cz2,rfl,_⟩:=hW4
 have n4:=kn k4
 clear h4 zV kV bV GC
 go_upto_region 5 with fail
 refine wp_freshS (u:=u4) (w0:=w) (B:=w.heap.size) g #[.slice aw2 3 cw2,.int .i64 y.dr.q,.slice ad2 3 cd2,.int .i64 y.dr.t,.slice ap2 3 cp2,.slice al2 y.l.length cl2,.slice (some ⟨ob2,0,none⟩) 3 cq2,.slice az2 y.sz.length cz2,.int .u64 y.us,.int .i64 y.bu,.int .i64 y.by'] (by (apply jt;(focus repeat(first|(with_reducible first|assumption|apply jd|apply js)|((with_reducible apply jo);first|focus(dsimp only;assumption)|focus(simp;done)|focus(dsimp only;omega))|((with_reducible apply jn);first|with_reducible rfl|focus(simp;done)|focus(simp;omega))|(with_reducible apply ja)|((with_reducible apply jb);with_reducible assumption)));kernel_rfl)) (by repeat (first|(with_reducible exact SameB.refl _ _)|(with_reducible refine SameB.set ?_ _ _))) (by (repeat(first|(with_reducible first|assumption|exact Below.refl _ _|refine je ?_|refine jl ?_)|((with_reducible refine jp ?_ ?_);first|focus(dsimp only;assumption)|focus(simp;done)|focus(dsimp only;omega))|(with_reducible refine bt ?_ (by assumption))))) ?_
 intro u5 k5 s5 b5
 have z5:=blk_same z4 (show w.heap.size + 1 ≠ g by omega) s5
 have E5:=Lib.hid ((W4.out.sameB s5 or2_1).exit)
 have n5:=kn k5
 have nz5:=kn z5
 clear n4 k4 z4 b4 s5 W4
 by_cases hz : err = 0
 ·subst hz
  go_upto_region 7 with fail
  refine wp_region_held_drew (S:=fun W => ∀ o,W.cell? ⟨g,o,none⟩ = (#[.slice aw2 3 cw2,.int .i64 y.dr.q,.slice ad2 3 cd2,.int .i64 y.dr.t,.slice ap2 3 cp2,.slice al2 y.l.length cl2,.slice (some ⟨ob2,0,none⟩) 3 cq2,.slice az2 y.sz.length cz2,.int .u64 y.us,.int .i64 y.bu,.int .i64 y.by'] : Array Value)[o]?) (by kernel_rfl) (fun o => blk_cell (blk_drew k5) o) (fun hHeld => ?_)
  obtain ⟨d0,ed⟩ : ∃ v,v = u5.drew:=⟨_,rfl⟩
  have kd0 : blk d0 g = some #[.slice aw2 3 cw2,.int .i64 y.dr.q,.slice ad2 3 cd2,.int .i64 y.dr.t,.slice ap2 3 cp2,.slice al2 y.l.length cl2,.slice (some ⟨ob2,0,none⟩) 3 cq2,.slice az2 y.sz.length cz2,.int .u64 y.us,.int .i64 y.bu,.int .i64 y.by']:=(by rw [ed];exact blk_drew k5)
  have zd0 : blk d0 (w.heap.size + 1) = some #[.slice none 0 0,.int .i64 0,.slice none 0 0,.int .i64 0,.slice none 0 0]:=(by rw [ed];exact blk_drew z5)
  have bd0 : Below w.heap.size w d0:=(by rw [ed];exact b5.drew)
  have Ed0:=E5
  have Ed0 : Hid (ExitS _ d0 #[.slice aw2 3 cw2,.int .i64 y.dr.q,.slice ad2 3 cd2,.int .i64 y.dr.t,.slice ap2 3 cp2] y.dr y.ps):=Lib.hid (by rw [ed];exact E5.out.below (Below.refl _ _).drew)
  rw [← ed] at hHeld ⊢
  clear ed
  refine jK (v:=?_) 0 ?_ ?_
  rotate_left;focus(intro W h;(try dsimp only at h);go_simp;(try with_reducible rfl));(try simp only[Act.put,jA,jB,jC,jD,jE,jF])
  refine jK (v:=?_) 1 ?_ ?_
  rotate_left;focus(intro W h;(try dsimp only at h);go_simp;(try with_reducible rfl));(try simp only[Act.put,jA,jB,jC,jD,jE,jF])
  refine jK (v:=.agg #[.slice aw2 3 cw2,.int .i64 y.dr.q,.slice ad2 3 cd2,.int .i64 y.dr.t,.slice ap2 3 cp2]) 2 ?_ ?_
  focus (intro W hSw;exact load_runW 28 (.tmp 40) g 0 [.slice aw2 3 cw2,.int .i64 y.dr.q,.slice ad2 3 cd2,.int .i64 y.dr.t,.slice ap2 3 cp2] _ rfl rfl W (rangeS5 hSw) Tryd.underlying28 rfl (by kernel_rfl))
  (try simp only[Act.put,jA,jB,jC,jD,jE,jF])
  refine jK (v:=?_) 3 ?_ ?_
  rotate_left;focus(intro W h;(try dsimp only at h);go_simp;(try with_reducible rfl));(try simp only[Act.put,jA,jB,jC,jD,jE,jF])
  refine jR 4 (fun K hK => ?_)
  refine wp_store_midB 28 (.tmp 11) (.tmp 41) (w.heap.size + 1) 0 #[.slice none 0 0,.int .i64 0,.slice none 0 0,.int .i64 0,.slice none 0 0] #[.slice aw2 3 cw2,.int .i64 y.dr.q,.slice ad2 3 cd2,.int .i64 y.dr.t,.slice ap2 3 cp2] #[.slice aw2 3 cw2,.int .i64 y.dr.q,.slice ad2 3 cd2,.int .i64 y.dr.t,.slice ap2 3 cp2] zd0 rfl rfl rfl (by simp) (by kernel_rfl) (by kernel_rfl) (by kernel_rfl) ?_
  intro T kT sT BT zT
  have bT:=BT _ _ (Nat.le_succ w.heap.size) bd0
  have kkT:=blk_same kd0 (show g ≠ w.heap.size + 1 by omega) sT
  have ET:=(Ed0.out.sameB sT (or2_3 _ or2_2)).mono (T:=S) (fun b h => or2_3 _ (or2_3 _ h))
  clear BT zT
  refine hK.out _ _ (fun o => blk_cell kkT o) (fun _ => ?_)
  clear hK K
  (try simp only[Act.put,jA,jB,jC,jD,jE,jF])
  refine jK (v:=?_) 5 ?_ ?_
  rotate_left;focus(intro W h;(try dsimp only at h);go_simp;(try with_reducible rfl));(try simp only[Act.put,jA,jB,jC,jD,jE,jF])
  refine wpAnyH_done (by kernel_rfl) ?_ _
  go_wp2
  refine ret_blk (b:=w.heap.size + 1) (c:=#[.slice aw2 3 cw2,.int .i64 y.dr.q,.slice ad2 3 cd2,.int .i64 y.dr.t,.slice ap2 3 cp2]) (v:=.tuple #[.int .i64 i,.agg #[.slice aw2 3 cw2,.int .i64 y.dr.q,.slice ad2 3 cd2,.int .i64 y.dr.t,.slice ap2 3 cp2],.int .i64 0]) kT (fun W' hc => by simp [results,Tryd.results30,go_sem,hc]) rfl ?_
  exact FO.out (by first|rfl|trivial) T _ bT ET
 ·have t2 : (err != 0) = true:=by simpa using hz
  go_wp2
  refine ret_blk (b:=w.heap.size + 1) (c:=#[.slice none 0 0,.int .i64 0,.slice none 0 0,.int .i64 0,.slice none 0 0]) (v:=.tuple #[.int .i64 0,.agg #[.slice none 0 0,.int .i64 0,.slice none 0 0,.int .i64 0,.slice none 0 0],.int .i64 err]) (by (apply jt;(focus repeat(first|(with_reducible first|assumption|apply jd|apply js)|((with_reducible apply jo);first|focus(dsimp only;assumption)|focus(simp;done)|focus(dsimp only;omega))|((with_reducible apply jn);first|with_reducible rfl|focus(simp;done)|focus(simp;omega))|(with_reducible apply ja)|((with_reducible apply jb);with_reducible assumption)));rfl)) (fun W' hc => by simp [results,Tryd.results30,go_sem,hc]) rfl (FE.out hz _ ?_)
  (repeat(first|(with_reducible first|assumption|exact Below.refl _ _|refine je ?_|refine jl ?_)|((with_reducible refine jp ?_ ?_);first|focus(dsimp only;assumption)|focus(simp;done)|focus(dsimp only;omega))|(with_reducible refine bt ?_ (by assumption))))
end Go.Proofs.YtkaehoihpgelnaaDoor
namespace Go.Proofs.YtkaehoihpgelnaaDoor
structure GdAll (y : Wy) : Prop where
  gd : GdW y
  lz : y.sz.length = y.l.length
  ps : okP y.ps
  by0 : 0 ≤ y.by' ∧ y.by' ≤ 100
  nd : ∀ p : Int,0 ≤ p → p ≤ 2 → (quA y p).Nodup
  cnt : cntW y ≤ 20
  us : 0 ≤ y.us ∧ y.us ≤ 18446744073709551615
  bu : 0 ≤ y.bu ∧ y.bu ≤ 9223372036854775807
theorem split_mem {l : List Int} {n : Int} (h : n ∈ l) (hd : l.Nodup) : ∃ A B,l = A ++ n :: B ∧ n ∉ A ∧ n ∉ B:=by
  obtain ⟨A,B,rfl⟩:=List.append_of_mem h
  rw [List.nodup_append] at hd
  obtain ⟨h1,h2,h3⟩:=hd
  exact ⟨A,B,rfl,fun hA => h3 n hA n (by simp) rfl,(List.nodup_cons.1 h2).1⟩
theorem at3_mem {P : Int → Prop} {l : List Int} (h : ∀ v ∈ l,P v) {p : Int} (h0 : 0 ≤ p) (h2 : p.toNat < l.length) : P (at3 l p):=by
  unfold at3
  rw [List.getD_eq_getElem?_getD,List.getElem?_eq_getElem h2]
  exact h _ (List.getElem_mem h2)
theorem cand_head {y : Wy} {p : Int} (hm : candA y p ∈ quA y p) (hne : at3 (quA y p) 0 ≠ candA y p) (hf : fitS y.sz y.us y.bu (candA y p) = true) (hpos : 0 ≤ candA y p) : at3 y.ps p < y.by':=by
  refine Classical.byContradiction fun hc => ?_
  have hb : decide (y.by' ≤ at3 y.ps p) = true:=decide_eq_true (by omega)
  unfold candA at hm hne hf hpos
  rw [hb] at hm hne hf hpos
  generalize quA y p = q at *
  rcases candQ_cases (fitS y.sz y.us y.bu) true q with ⟨h1,_⟩|⟨h1,h2,h3⟩
  · rw [h1] at hpos;omega
  · have h4:=h3 rfl
    cases q with
    | nil => cases h1
    | cons i r =>
      simp only [List.head?_cons,Option.some.injEq] at h4
      exact hne h4
structure StepG (y : Wy) (pn n : Nat) (A B : List Int) : Prop where
  pn3 : pn < 3
  i : (chooseS y).1 = n
  q : quA (chooseS y).2.1 pn = A ++ (n : Int) :: B
  nA : (n : Int) ∉ A
  nB : (n : Int) ∉ B
  qs3 : (chooseS y).2.1.qs.length = 3
  nl : n < (chooseS y).2.1.l.length
  pr : (bnL (chooseS y).2.1.l n).pr = pn
  lq : A.length + 1 + B.length ≤ 20
  sz : n < (chooseS y).2.1.sz.length
  z : 1 ≤ at3 (chooseS y).2.1.sz n ∧ at3 (chooseS y).2.1.sz n ≤ (chooseS y).2.1.us ∧ at3 (chooseS y).2.1.sz n ≤ (chooseS y).2.1.bu
  us : (chooseS y).2.1.us ≤ 18446744073709551615
  bu : (chooseS y).2.1.bu ≤ 9223372036854775807
  gd : GdAll (stepW y)
  cnt : cntW (stepW y) + 1 ≤ cntW y
theorem step_gd {y : Wy} (h : GdAll y) (hz : (chooseS y).2.2 = 0) : ∃ pn n A B,StepG y pn n A B:=by
  obtain ⟨p,h0,h2,hpe,hi,hm,hf,hpos,hw,hok⟩:=choose_some h.gd hz
  obtain ⟨p',S⟩:=step_some h.gd hz
  obtain ⟨n,hn1,hn2,hn3⟩:=h.gd.mem p h0 h2 _ hm
  have hpp : p' = p:=by
    obtain ⟨_,_,_,e3⟩:=h.gd.mem p' S.p0 S.p2 _ S.mem
    rw [← S.i,hi] at e3
    rw [hn3] at e3;exact e3.symm
  subst hpp
  obtain ⟨A,B,hq,hA,hB⟩:=split_mem hm (h.nd p' h0 h2)
  have hps3:=h.gd.ps3
  have hcnt:=h.cnt
  have hcs:=cnt_step S
  have hlq : (quA y p').length ≤ cntW y:=by
    unfold cntW
    rcases (by omega : p' = 0 ∨ p' = 1 ∨ p' = 2) with rfl|rfl|rfl <;> omega
  have hf2:=hf
  unfold fitS at hf2
  simp only [Bool.and_eq_true,decide_eq_true_eq] at hf2
  have hs:=h.gd.szs n hn2
  have hnn : candA y p' = n:=hn1
  rw [hnn] at hf2 hq hA hB
  have hlz:=h.lz
  refine ⟨p'.toNat,n,A,B,?_⟩
  have e0 : ((p'.toNat : Nat) : Int) = p':=by omega
  refine ⟨by omega,by rw [hi,hnn],by rw [hw,e0];exact hq,hA,hB,by rw [hw];exact h.gd.qs3,by rw [hw];exact hn2,by rw [hw,e0,← hnn];exact hn3,?_,by rw [hw];show n < y.sz.length;omega,by rw [hw];exact ⟨hs.1,hf2.1,hf2.2⟩,by rw [hw];exact h.us.2,by rw [hw];exact h.bu.2,?_,by omega⟩
  · have e1 : (quA y p').length = A.length + 1 + B.length:=by rw [hq];simp;omega
    omega
  · refine ⟨S.gd,by rw [S.sz,S.l];exact hlz,?_,by rw [S.by_];exact h.by0,fun p2 q0 q2 => ?_,by omega,by rw [S.us,hnn];have:=h.us;omega,by rw [S.bu,hnn];have:=h.bu;omega⟩
    · have e : (stepW y).ps = (chooseS y).2.1.ps:=rfl
      rw [e,hw]
      intro v hv
      rcases List.mem_or_eq_of_mem_set hv with h9|rfl
      · exact h.ps v h9
      · split
        · omega
        · rename_i hne
          have h8:=cand_head hm hne hf hpos
          have h7 : 0 ≤ at3 y.ps p' ∧ at3 y.ps p' ≤ 100:=at3_mem (P:=fun v => 0 ≤ v ∧ v ≤ 100) h.ps h0 (by omega)
          have:=h.by0
          omega
    · rw [S.qu p2 q0 q2]
      split
      · exact (h.nd p' h0 h2).filter _
      · exact h.nd p2 q0 q2
theorem allS_zero {n : Nat} {y : Wy} (hz : (chooseS y).2.2 ≠ 0) : allS (n + 1) y = ([],y):=by
  show (if (chooseS y).2.2 ≠ 0 then _ else _) = _
  rw [if_pos hz]
theorem allS_succ {n : Nat} {y : Wy} (hz : (chooseS y).2.2 = 0) : allS (n + 1) y = ((chooseS y).1 :: (allS n (stepW y)).1,(allS n (stepW y)).2):=by
  show (if (chooseS y).2.2 ≠ 0 then _ else _) = _
  rw [if_neg (by simpa using hz)]
  rfl
end Go.Proofs.YtkaehoihpgelnaaDoor
namespace Go.Proofs.YtkaehoihpgelnaaDoor
open Go.RowKit
def KeptS (S : Nat → Prop) (W W' : World) : Prop:=W.heap.size ≤ W'.heap.size ∧ ∀ b,b < W.heap.size → ¬ S b → W'.heap[b]? = W.heap[b]?
theorem KeptS.of_grown {S : Nat → Prop} {W W' : World} {row : Option Nat} (h : W.grownBy W' row) (hr : ∀ k,row = some k → S k) : KeptS S W W':=⟨h.size,fun b hb hn => h.block b hb (fun e => hn (hr b e.symm))⟩
theorem srow_keptS {α : Type} {enc : α → List Value} {k : Nat} {S : Nat → Prop} {W W' : World} {a : Option Addr} {cap : Nat} {l : List α} (h : SRow enc k W a cap l) (hk : KeptS S W W') (n : neS S a l) : SRow enc k W' a cap l:=by
  obtain ⟨h1,h2,h3,h4⟩:=h
  refine ⟨h1,h2,h3,fun h0 => ?_⟩
  obtain ⟨b,off,e,hlt,hc⟩:=h4 h0
  exact ⟨b,off,e,Nat.lt_of_lt_of_le hlt hk.1,fun i hi j v hv => by rw [World.cell?_of_block (w:=W) (hk.2 b hlt (n h0 b off e))];exact hc i hi j v hv⟩
theorem QAtS.keptS {S : Nat → Prop} {W W' : World} {ob : Nat} {q0 q1 q2 : List Int} (h : QAtS S W ob q0 q1 q2) (hk : KeptS S W W') : QAtS S W' ob q0 q1 q2:=by
  obtain ⟨a0,c0,a1,c1,a2,c2,h1,h2,h3,h4,h5,h6,h7,h8,h9⟩:=h
  exact ⟨a0,c0,a1,c1,a2,c2,h1,Nat.lt_of_lt_of_le h2 hk.1,fun j v hv => (World.cell?_of_block (w:=W) (hk.2 ob h2 h1)).trans (h3 j v hv),srow_keptS h4 hk h7,srow_keptS h5 hk h8,srow_keptS h6 hk h9,h7,h8,h9⟩
theorem WayS.keptS {S : Nat → Prop} {W W' : World} {c : Array Value} {x : Wy} (h : WayS S W c x) (hk : KeptS S W W') : WayS S W' c x:=by
  obtain ⟨aw,cw,ad,cd,ap,cp,al,cl,ob,cq,az,cz,e,h1,h2,h3,h4,h5,h6,h7,h8,n1,n2,n3,n4,n5⟩:=h
  exact ⟨aw,cw,ad,cd,ap,cp,al,cl,ob,cq,az,cz,e,h1,h2,srow_keptS h3 hk n1,srow_keptS h4 hk n2,srow_keptS h5 hk n3,srow_keptS h6 hk n4,h7.keptS hk,srow_keptS h8 hk n5,n1,n2,n3,n4,n5⟩
theorem neS.to {α : Type} {S T : Nat → Prop} {W : World} {enc : α → List Value} {k : Nat} {a : Option Addr} {cap : Nat} {l : List α} (h : neS S a l) (r : SRow enc k W a cap l) (hT : ∀ b,T b → S b ∨ W.heap.size ≤ b) : neS T a l:=fun h0 b off e hb => by
  have h9:=r.lt h0 e
  rcases hT b hb with h1|h1
  · exact h h0 b off e h1
  · omega
theorem WayS.to {S T : Nat → Prop} {W : World} {c : Array Value} {x : Wy} (h : WayS S W c x) (hT : ∀ b,T b → S b ∨ W.heap.size ≤ b) : WayS T W c x:=by
  obtain ⟨aw,cw,ad,cd,ap,cp,al,cl,ob,cq,az,cz,e,h1,h2,h3,h4,h5,h6,h7,h8,n1,n2,n3,n4,n5⟩:=h
  obtain ⟨a0,c0,a1,c1,a2,c2,k1,k2,k3,k4,k5,k6,k7,k8,k9⟩:=h7
  refine ⟨aw,cw,ad,cd,ap,cp,al,cl,ob,cq,az,cz,e,h1,h2,h3,h4,h5,h6,⟨a0,c0,a1,c1,a2,c2,fun hb => ?_,k2,k3,k4,k5,k6,k7.to k4 hT,k8.to k5 hT,k9.to k6 hT⟩,h8,n1.to h3 hT,n2.to h4 hT,n3.to h5 hT,n4.to h6 hT,n5.to h8 hT⟩
  rcases hT _ hb with h9|h9
  · exact k1 h9
  · omega
def avO (S : Nat → Prop) (o : Value) : Nat → Prop:=fun b => S b ∨ o.ownBlock = some b
def lenV : Value → Nat
  | .slice _ n _ => n
  | _ => 0
theorem opnW_gda {r : Rr} {ps : List Int} {l : List Bn} {us bu by' : Int} (h : OpnG r ps l us bu by') : GdAll (opnW r ps l us bu by') ∧ cntW (opnW r ps l us bu by') = l.length:=by
  have hc : cntW (opnW r ps l us bu by') = l.length:=by
    have h9:=firW_cnt (l:=l) (fun i hi => (bcode_facts (lstE_codes h.lst _ (List.getElem_mem hi))).2.1) us bu by'
    exact h9
  refine ⟨⟨opnW_gd h,opnW_sz r ps l us bu by',(chkX_zero h.chk).2.2,h.by0,fun p h0 h2 => ?_,by rw [hc];exact h.len,h.us0,h.bu0⟩,hc⟩
  have e : quA (opnW r ps l us bu by') p = queS l p:=by rcases (by omega : p = 0 ∨ p = 1 ∨ p = 2) with rfl|rfl|rfl <;> rfl
  rw [e];exact queS_nodup l p
theorem owns_sameB {W W' : World} {base g : Nat} {e : TypeId} {size : Nat} {v : Value} {n : Nat} {xs : List Value} (h : W.ownsRow base e size v n xs) (hs : SameB g W W') (hg : g < base) : W'.ownsRow base e size v n xs:=by
  obtain ⟨h1,h2⟩:=h
  refine ⟨h1,?_⟩
  rcases h2 with h2|⟨g',cap,cur,rfl,hb,hc,h3⟩
  · exact .inl h2
  · exact .inr ⟨g',cap,cur,rfl,hb,(hs.2 g' (Array.getElem?_eq_some_iff.1 hc).1 (by omega)).trans hc,h3⟩
theorem without_any {y : Wy} {pn n : Nat} {A B : List Int} (h : StepG y pn n A B) (c : Array Value) (S : Nat → Prop) (w : World) (hS : ∀ b,S b → b < w.heap.size) (hW : WayS S w c (chooseS y).2.1) :
    Calls Tryd.prog 40 #[.agg c,.int .i64 n] w fun e w' => RetW S (stepW y) w e w':=by
  have h9:=without_ok c (chooseS y).2.1 n pn h.qs3 h.nl h.pr h.pn3 A B h.q h.nA h.nB (by have:=h.lq;omega) h.sz h.z h.us h.bu S w hS hW
  unfold stepW
  rw [h.i]
  exact h9
def RetAl (S : Nat → Prop) (L : List Int) (y : Wy) (w : World) (e : Ending) (w' : World) : Prop:=∃ a1 c1 c,e = .returned (.tuple #[.slice a1 L.length c1,.agg c,.int .i64 0]) ∧ SRow ic 1 w' a1 c1 L ∧ ExitS S w' c y.dr y.ps ∧ Below w.heap.size w w' ∧ upR w.heap.size a1
set_option maxHeartbeats 6400000 in
theorem allX_any {r : Rr} {ps : List Int} {l : List Bn} {us bu by' : Int} (h : OpnG r ps l us bu by') (N : Nat) (hN : l.length < N) (c : Array Value) (al : Option Addr) (cl : Nat) (w : World) (hT : HTab w) (S : Nat → Prop) (hS : ∀ b,S b → b < w.heap.size) (hX : ExitS S w c r ps) (hrow : SRow bn 9 w al cl l) (nl : neS S al l) :
  Calls Tryd.prog 11 #[.agg c,.slice al l.length cl,.int .u64 us,.int .i64 bu,.int .i64 by'] w fun e w' => RetAl S (allS N (opnW r ps l us bu by')).1 (allS N (opnW r ps l us bu by')).2 w e w':=by
 obtain ⟨i0,hi,hz0,hz1,hz2⟩:=info_parts infoI64
 have Hi:=Lib.hid hi;have Hz0:=Lib.hid hz0;have Hz1:=Lib.hid hz1;have Hz2:=Lib.hid hz2
 clear hi hz0 hz1 hz2
 have HO:=Lib.hid (fun W (hB : Below w.heap.size w W) (h2 : w.heap.size + 2 ≤ W.heap.size) => open_any h c al cl W (hT.on hB) (or2 S w.heap.size (w.heap.size + 1)) (by rintro b (rfl|rfl|hb) <;> (try have h9:=hS b hb) <;> omega) ((hX.or (Nat.le_refl _) (Nat.le_succ _)).below hB) (hrow.below hB) (nl.or hrow (Nat.le_refl _) (Nat.le_succ _)))
 obtain ⟨g0,g1⟩:=opnW_gda h
 have HG:=Lib.hid g0
 have HN:=Lib.hid (show cntW (opnW r ps l us bu by') < N by omega)
 have HS:=Lib.hid hS
 obtain ⟨aw,cw,ad,cd,ap,cp,rfl,_⟩:=hX
 obtain ⟨x,hx⟩ : ∃ x,x = opnW r ps l us bu by':=⟨_,rfl⟩
 rw [← hx] at HO HG HN ⊢
 obtain ⟨rq,hrq⟩ : ∃ v,v = r.q:=⟨_,rfl⟩
 obtain ⟨rt,hrt⟩ : ∃ v,v = r.t:=⟨_,rfl⟩
 obtain ⟨n,hn⟩ : ∃ v,v = l.length:=⟨_,rfl⟩
 rw [← hrq,← hrt,← hn] at HO ⊢
 obtain ⟨LR,hLR⟩ : ∃ v,v = (allS N x).1:=⟨_,rfl⟩
 obtain ⟨YR,hYR⟩ : ∃ v,v = (allS N x).2:=⟨_,rfl⟩
 rw [← hLR,← hYR]
 have HR:=Lib.hid (And.intro hLR hYR)
 have t1 : ((0 : Int) != 0) = false:=rfl
 clear hx hrq hrt hn hrow hT h nl hS hN hLR hYR g0 g1
 go_enter Tryd.func11,Tryd.ntmps11
 go_upto_region 1 with fail
 refine wp_region_tail0 0 ?_
 intro W0 hE hN
 have k0 : blk W0 w.heap.size = some #[.slice aw 3 cw,.int .i64 rq,.slice ad 3 cd,.int .i64 rt,.slice ap 3 cp]:=(by rw [hE.out];(apply jt;(focus repeat(first|(with_reducible first|assumption|apply jd|apply js)|((with_reducible apply jo);first|focus(dsimp only;assumption)|focus(simp;done)|focus(dsimp only;omega))|((with_reducible apply jn);first|with_reducible rfl|focus(simp;done)|focus(simp;omega))|(with_reducible apply ja)|((with_reducible apply jb);with_reducible assumption)));rfl))
 have z0 : blk W0 (w.heap.size + 1) = some #[.slice none 0 0,.int .i64 0,.slice none 0 0,.int .i64 0,.slice none 0 0]:=(by rw [hE.out];(apply jt;(focus repeat(first|(with_reducible first|assumption|apply jd|apply js)|((with_reducible apply jo);first|focus(dsimp only;assumption)|focus(simp;done)|focus(dsimp only;omega))|((with_reducible apply jn);first|with_reducible rfl|focus(simp;done)|focus(simp;omega))|(with_reducible apply ja)|((with_reducible apply jb);with_reducible assumption)));rfl))
 have b0 : Below w.heap.size w W0:=(by rw [hE.out];(repeat(first|(with_reducible first|assumption|exact Below.refl _ _|refine je ?_|refine jl ?_)|((with_reducible refine jp ?_ ?_);first|focus(dsimp only;assumption)|focus(simp;done)|focus(dsimp only;omega))|(with_reducible refine bt ?_ (by assumption)))))
 clear hE
 simp only [List.take_succ_cons,List.take_zero,List.drop_succ_cons,List.drop_zero]
 refine wpQuiet_nil ?_
 rintro _ ⟨x',rfl⟩
 have k1:=blk_below x'.ok k0
 have z1:=blk_below x'.ok z0
 have b1:=bt b0 x'.ok
 obtain ⟨u,hu⟩ : ∃ u,u = x'.wd:=⟨_,rfl⟩
 rw [← hu] at k1 z1 b1 ⊢
 clear hu x' hN k0 z0 b0
 have l1 : w.heap.size + 2 ≤ u.heap.size:=blk_lt z1
 refine wpList_load_mid rfl 28 (.tmp 5) rfl w.heap.size 0 rfl [.slice aw 3 cw,.int .i64 rq,.slice ad 3 cd,.int .i64 rt,.slice ap 3 cp] _ (range_of_blk k1 0 _ rfl) Tryd.underlying28 rfl (by kernel_rfl) ?_
 conv => arg 5;simp [Act.put]
 clear k1
 go_upto_region 3 with (first|(go_at_call 38;(with_reducible refine (HO.out _ b1 l1).mono ?_);rintro e u2 ⟨cc,rfl,hW2,h2⟩;(have b2:=bt b1 h2);(have z2:=blk_below h2 z1);(have HW:=Lib.hid hW2);obtain ⟨aw',cw',ad',cd',ap',cp',al',cl',ob',cq',az',cz',rfl,_⟩:=hW2;clear h2 z1 b1 l1)|fail)
 go_upto_region 4 with fail
 obtain ⟨V,eV⟩ : ∃ v,v = u2.alloc (.cells #[.slice aw' 3 cw',.int .i64 x.dr.q,.slice ad' 3 cd',.int .i64 x.dr.t,.slice ap' 3 cp',.slice al' x.l.length cl',.slice (some ⟨ob',0,none⟩) 3 cq',.slice az' x.sz.length cz',.int .u64 x.us,.int .i64 x.bu,.int .i64 x.by'] 70):=⟨_,rfl⟩
 obtain ⟨g,eg⟩ : ∃ v,v = u2.heap.size:=⟨_,rfl⟩
 have hV : Below u2.heap.size u2 V:=(by rw [eV];exact (Below.refl _ _).alloc (Nat.le_refl _) _)
 have kV : blk V g = some #[.slice aw' 3 cw',.int .i64 x.dr.q,.slice ad' 3 cd',.int .i64 x.dr.t,.slice ap' 3 cp',.slice al' x.l.length cl',.slice (some ⟨ob',0,none⟩) 3 cq',.slice az' x.sz.length cz',.int .u64 x.us,.int .i64 x.bu,.int .i64 x.by']:=(by rw [eV];exact blk_alloc_new _ _ _ eg)
 have zV:=blk_below hV z2
 have bV:=bt b2 hV
 have lg : w.heap.size + 1 < g:=(by rw [eg];exact blk_lt z2)
 have WV : WayS (or2 (or2 S w.heap.size (w.heap.size + 1)) g g) V _ x:=(HW.out.or (Nat.le_of_eq eg.symm) (Nat.le_of_eq eg.symm)).below hV
 obtain ⟨SG,hSG⟩ : ∃ s,s = or2 (or2 S w.heap.size (w.heap.size + 1)) g g:=⟨_,rfl⟩
 obtain ⟨BB,hBB⟩ : ∃ v,v = V.heap.size:=⟨_,rfl⟩
 have gB : g < BB:=(by rw [hBB];exact blk_lt kV)
 have hSV : Hid (∀ b,SG b → b < BB):=Lib.hid (by
  rw [hSG]
  rintro b (rfl|rfl|rfl|rfl|hb) <;> (try have h9:=HS.out b hb) <;> omega)
 have hS1 : Hid (SG (w.heap.size + 1) ∧ SG g ∧ ∀ b,S b → SG b):=Lib.hid (by rw [hSG];exact ⟨or2_3 _ or2_2,or2_1,fun b h => or2_3 _ (or2_3 _ h)⟩)
 rw [← hSG] at WV
 have hB0 : Hid (BB ≤ V.heap.size):=Lib.hid (Nat.le_of_eq hBB)
 rw [← eV,← eg]
 have INI : Hid (blk V (w.heap.size + 1) = some #[.slice none 0 0,.int .i64 0,.slice none 0 0,.int .i64 0,.slice none 0 0] ∧ blk V g = some _ ∧ WayS (avO SG (.slice none 0 0)) V _ x ∧ GdAll x ∧ V.ownsRow BB 3 1 (.slice none 0 0) 0 (rowC ic []) ∧ cntW x < N ∧ [] ++ (allS N x).1 = LR ∧ (allS N x).2 = YR):=Lib.hid ⟨zV,kV,WV.mono (fun b h => by rcases h with h|h;exact h;cases h),HG.out,World.ownsRow_nil _ _ _ _,HN.out,HR.out.1.symm,HR.out.2.symm⟩
 have CI : Hid (([] : List Int).length + cntW x ≤ 20):=Lib.hid (by have:=HG.out.cnt;simpa using this)
 clear eV eg hV z2 b2 HW WV HO HG HN HR hSG hBB zV kV
 go_wp2
 go_loopw [15] (fun o wr => ∃ (y : Wy) (C : Array Value) (L : List Int) (m : Nat),L.length + cntW y ≤ 20 ∧ Below w.heap.size w wr ∧ BB ≤ wr.heap.size ∧ lenV o = L.length ∧ Hid (blk wr (w.heap.size + 1) = some #[.slice none 0 0,.int .i64 0,.slice none 0 0,.int .i64 0,.slice none 0 0] ∧ blk wr g = some C ∧ WayS (avO SG o) wr C y ∧ GdAll y ∧ wr.ownsRow BB 3 1 o L.length (rowC ic L) ∧ cntW y < m ∧ L ++ (allS m y).1 = LR ∧ (allS m y).2 = YR)) (fun o _ => 21 - lenV o)
 case atStart => exact ⟨x,_,[],N,CI.out,bV,hB0.out,rfl,INI⟩
 case round =>
  clear INI CI bV hB0
  obtain ⟨y,C,L,m,hc,hB,hBr,hlo,HK⟩:=hrel
  obtain ⟨zr,kr,Wr,gy,oo,hm,hL1,hL2⟩:=HK.out
  obtain ⟨ao,co,rfl,Ro,_⟩:=srow_of_owns ic_len oo
  have uo : upR BB ao:=fun b off e => by subst e;exact (oo.lt b rfl).1
  have HW:=Lib.hid Wr
  have hSr : ∀ b,avO SG (.slice ao L.length co) b → b < wr.heap.size:=(by
   rintro b (hb|hb)
   ·have:=hSV.out b hb;omega
   ·exact (oo.lt b hb).2)
  have GC:=Lib.hid (choose_any C y gy.gd gy.lz gy.ps gy.by0.2 _ wr hSr Wr)
  obtain ⟨aw2,cw2,ad2,cd2,ap2,cp2,al2,cl2,ob2,cq2,az2,cz2,rfl,_⟩:=Wr
  have nr:=kn kr
  have G:=Lib.hid (And.intro gy (And.intro oo (And.intro hm (And.intro hL1 hL2))))
  clear HK gy oo hm hL1 hL2 hSr hlo
  obtain ⟨i,hi⟩ : ∃ v,(chooseS y).1 = v:=⟨_,rfl⟩
  obtain ⟨err,he⟩ : ∃ v,(chooseS y).2.2 = v:=⟨_,rfl⟩
  have HI:=Lib.hid hi;have HE:=Lib.hid he
  unfold RetH at GC
  rw [hi,he] at GC
  clear hi he
  go_upto_region 6 with (go_at_call 39;(with_reducible refine (GC.out).mono ?_);rintro e u1 ⟨cc,rfl,hW1,h1⟩;(have b1:=bt hB h1);(have z1:=blk_below h1 zr);(have k1:=blk_below h1 kr);(have R1:=Ro.below h1);(have O1:=Lib.hid (owns_belowS G.out.2.1 h1));(have E1:=Lib.hid (HW.out.below h1).exit);(have W1:=Lib.hid hW1);obtain ⟨aw3,cw3,ad3,cd3,ap3,cp3,al3,cl3,ob3,cq3,az3,cz3,rfl,_⟩:=hW1;(have s1:=h1.size);clear GC nr zr kr Ro HW h1)
  obtain ⟨u5,eU⟩ : ∃ v,v = u1.alloc (.cells #[.slice aw3 3 cw3,.int .i64 (chooseS y).2.1.dr.q,.slice ad3 3 cd3,.int .i64 (chooseS y).2.1.dr.t,.slice ap3 3 cp3,.slice al3 (chooseS y).2.1.l.length cl3,.slice (some ⟨ob3,0,none⟩) 3 cq3,.slice az3 (chooseS y).2.1.sz.length cz3,.int .u64 (chooseS y).2.1.us,.int .i64 (chooseS y).2.1.bu,.int .i64 (chooseS y).2.1.by'] 70):=⟨_,rfl⟩
  obtain ⟨g7,eg7⟩ : ∃ v,v = u1.heap.size:=⟨_,rfl⟩
  have hU : Below u1.heap.size u1 u5:=(by rw [eU];exact (Below.refl _ _).alloc (Nat.le_refl _) _)
  have k7 : blk u5 g7 = some #[.slice aw3 3 cw3,.int .i64 (chooseS y).2.1.dr.q,.slice ad3 3 cd3,.int .i64 (chooseS y).2.1.dr.t,.slice ap3 3 cp3,.slice al3 (chooseS y).2.1.l.length cl3,.slice (some ⟨ob3,0,none⟩) 3 cq3,.slice az3 (chooseS y).2.1.sz.length cz3,.int .u64 (chooseS y).2.1.us,.int .i64 (chooseS y).2.1.bu,.int .i64 (chooseS y).2.1.by']:=(by rw [eU];exact blk_alloc_new _ _ _ eg7)
  have k5:=blk_below hU k1
  have z5:=blk_below hU z1
  have b5:=bt b1 hU
  have R5:=R1.below hU
  have O5:=Lib.hid (owns_belowS O1.out hU)
  have E5:=Lib.hid (E1.out.below hU)
  have W5:=Lib.hid (W1.out.below hU)
  have l7 : g < g7:=(by rw [eg7];exact blk_lt k1)
  have lB7 : BB ≤ g7:=(by omega)
  have OL : Hid (∀ k,(Value.slice ao L.length co).ownBlock = some k → BB ≤ k ∧ k < g7):=Lib.hid (fun k e => by rw [eg7];exact O1.out.lt k e)
  rw [← eU,← eg7]
  clear eU eg7 hU k1 z1 b1 R1 O1 E1 W1 s1
  by_cases hz : err = 0
  ·subst hz
   obtain ⟨pn,n9,A,B,hst⟩:=step_gd G.out.1 HE.out
   obtain rfl : i = n9:=HI.out.symm.trans hst.i
   have HST:=Lib.hid hst
   have lL : L.length ≤ 19:=(by have:=hst.cnt;omega)
   have l5 : (L ++ [(n9 : Int)]).length = L.length + 1:=(by simp)
   have L5:=Lib.hid l5
   clear hst E5 R5 HI l5
   go_wp2_with (first
    | (
     at_builtin;go_loud ((refine wpList_append_own_at _ rfl _ _ 22 rfl BB 3 i0 (.int .i64 0) 1 8 Tryd.underlying22 Hi.out Hz0.out Hz1.out Hz2.out rfl (by decide) (.slice ao L.length co) L.length (rowC ic L) rfl (O5.out.alloc _) ⟨u5.heap.size,0,none⟩ 1 1 [.int .i64 n9] rfl rfl (fun jj u hj => (by rw [Addr.add_mid,Nat.zero_add,blk_cell (blk_alloc_new u5 #[.int .i64 n9] 3 rfl)];simpa using hj)) (ic_one n9) (by unfold maxLen;omega) (by omega) (by have:=blk_lt k7;simp;omega) ?_);(intro v' w5 ho5 hg5 _ hob))
     have hA : Below u5.heap.size u5 (u5.alloc (.cells #[.int .i64 n9] 3)):=(Below.refl _ _).alloc (Nat.le_refl _) _
     have ho6 : w5.ownsRow BB 3 1 v' (L ++ [(n9 : Int)]).length (rowC ic (L ++ [(n9 : Int)])):=(by rw [L5.out,rowC_append,rowC_one];exact ho5)
     have W6 : WayS (avO SG v') w5 _ _:=((W5.out.below hA).to (T:=fun b => avO SG (.slice ao L.length co) b ∨ v'.ownBlock = some b) (by
      rintro b (h|h)
      ·exact .inl h
      ·rcases hob with e|e
       ·rw [e] at h;exact .inl (.inr h)
       ·rw [e] at h;cases h;exact .inr (Nat.le_refl _)) |>.keptS (KeptS.of_grown hg5 (fun k e => .inl (.inr e)))).mono (fun b h => by
      rcases h with h|h
      ·exact .inl (.inl h)
      ·exact .inr h)
     have keep : ∀ b c,blk u5 b = some c → (b < BB ∨ g7 ≤ b) → blk w5 b = some c:=(fun b c hb hr => (blk_kept (hg5.block b (Nat.lt_of_lt_of_le (blk_lt hb) hA.size) (fun e => by have:=OL.out b e.symm;omega))).trans (blk_below hA hb))
     have k6:=keep _ _ k5 (.inl gB)
     have z6:=keep _ _ z5 (.inl (by omega))
     have k76:=keep _ _ k7 (.inr (Nat.le_refl _))
     have b6 : Below w.heap.size w w5:=((bt b5 hA).grown hg5 (by have:=b5.size;simp;omega) (fun k e => by have:=(OL.out k e).1;omega))
     have s6 : BB ≤ w5.heap.size:=(by have:=blk_lt k76;omega)
     have hS6 : ∀ b,avO SG v' b → b < w5.heap.size:=(by
      rintro b (hb|hb)
      ·have:=hSV.out b hb;omega
      ·exact (ho6.lt b hb).2)
     obtain ⟨a5,c5,rfl,_⟩:=srow_of_owns ic_len ho6
     rw [L5.out] at ho6 W6 hS6 ⊢
     have GW:=Lib.hid (without_any HST.out _ _ w5 hS6 W6)
     have O6:=Lib.hid ho6
     have n6:=kn k6
     have n76:=kn k76
     clear ho5 hg5 hob hA ho6 W6 hS6 keep k5 z5 k7 b5 O5 W5 OL)
    | (go_at_call 40;(with_reducible refine (GW.out).mono ?_);rintro e u8 ⟨cc,rfl,hW8,h8⟩;(have b8:=bt b6 h8);(have z8:=blk_below h8 z6);(have k8:=blk_below h8 k6);(have O8:=Lib.hid (owns_belowS O6.out h8));(have W8:=Lib.hid hW8);obtain ⟨aw4,cw4,ad4,cd4,ap4,cp4,al4,cl4,ob4,cq4,az4,cz4,rfl,_⟩:=hW8;(have s8:=h8.size);(have n8:=kn k8);clear GW n6 n76 z6 k6 k76 b6 O6 h8))
   obtain ⟨X,eX⟩ : ∃ v,v = (((((((((((u8.setCell ⟨g,0,none⟩ (.slice aw4 3 cw4)).setCell ⟨g,1,none⟩ (.int .i64 (stepW y).dr.q)).setCell ⟨g,2,none⟩ (.slice ad4 3 cd4)).setCell ⟨g,3,none⟩ (.int .i64 (stepW y).dr.t)).setCell ⟨g,4,none⟩ (.slice ap4 3 cp4)).setCell ⟨g,5,none⟩ (.slice al4 (stepW y).l.length cl4)).setCell ⟨g,6,none⟩ (.slice (some ⟨ob4,0,none⟩) 3 cq4)).setCell ⟨g,7,none⟩ (.slice az4 (stepW y).sz.length cz4)).setCell ⟨g,8,none⟩ (.int .u64 (stepW y).us)).setCell ⟨g,9,none⟩ (.int .i64 (stepW y).bu)).setCell ⟨g,10,none⟩ (.int .i64 (stepW y).by')):=⟨_,rfl⟩
   have sX : SameB g u8 X:=(by rw [eX];(repeat (first|(with_reducible exact SameB.refl _ _)|(with_reducible refine SameB.set ?_ _ _))))
   have kX : blk X g = some #[.slice aw4 3 cw4,.int .i64 (stepW y).dr.q,.slice ad4 3 cd4,.int .i64 (stepW y).dr.t,.slice ap4 3 cp4,.slice al4 (stepW y).l.length cl4,.slice (some ⟨ob4,0,none⟩) 3 cq4,.slice az4 (stepW y).sz.length cz4,.int .u64 (stepW y).us,.int .i64 (stepW y).bu,.int .i64 (stepW y).by']:=(by rw [eX];(apply jt;(focus repeat(first|(with_reducible first|assumption|apply jd|apply js)|((with_reducible apply jo);first|focus(dsimp only;assumption)|focus(simp;done)|focus(dsimp only;omega))|((with_reducible apply jn);first|with_reducible rfl|focus(simp;done)|focus(simp;omega))|(with_reducible apply ja)|((with_reducible apply jb);with_reducible assumption)));kernel_rfl))
   have bX : Below w.heap.size w X:=(by rw [eX];(repeat(first|(with_reducible first|assumption|exact Below.refl _ _|refine je ?_|refine jl ?_)|((with_reducible refine jp ?_ ?_);first|focus(dsimp only;assumption)|focus(simp;done)|focus(dsimp only;omega))|(with_reducible refine bt ?_ (by assumption)))))
   rw [← eX]
   clear eX n8 k8
   go_roundw
   case rel =>
    have cS:=HST.out.cnt
    refine ⟨stepW y,_,L ++ [(n9 : Int)],m - 1,by rw [L5.out];omega,bX,by have:=sX.1;omega,by rw [L5.out];rfl,Lib.hid ⟨blk_same z8 (by omega) sX,kX,W8.out.sameB sX (.inl hS1.out.2.1),HST.out.gd,?_,by have:=G.out.2.2.1;omega,?_,?_⟩⟩
    ·rw [L5.out]
     exact owns_sameB O8.out sX gB
    ·have h9:=G.out.2.2.2.1
     obtain ⟨m',rfl⟩ : ∃ m',m = m' + 1:=⟨m - 1,by have:=G.out.2.2.1;omega⟩
     rw [allS_succ HE.out,HST.out.i] at h9
     rw [← h9];simp
    ·have h9:=G.out.2.2.2.2
     obtain ⟨m',rfl⟩ : ∃ m',m = m' + 1:=⟨m - 1,by have:=G.out.2.2.1;omega⟩
     rw [allS_succ HE.out] at h9
     exact h9
   case measure => simp [lenV];omega
  ·have t2 : (err != 0) = true:=by simpa using hz
   have HL : Hid (LR = L ∧ YR = y):=Lib.hid (by
    obtain ⟨m',rfl⟩ : ∃ m',m = m' + 1:=⟨m - 1,by have:=G.out.2.2.1;omega⟩
    have h8:=G.out.2.2.2
    rw [allS_zero (by rw [HE.out];exact hz)] at h8
    exact ⟨by rw [← h8.1];simp,h8.2.symm⟩)
   clear W5 k7 O5 HE G HI
   go_upto_region 7 with fail
   refine wp_region_held_drew (S:=fun W => ∀ o,W.cell? ⟨g,o,none⟩ = (#[.slice aw2 3 cw2,.int .i64 y.dr.q,.slice ad2 3 cd2,.int .i64 y.dr.t,.slice ap2 3 cp2,.slice al2 y.l.length cl2,.slice (some ⟨ob2,0,none⟩) 3 cq2,.slice az2 y.sz.length cz2,.int .u64 y.us,.int .i64 y.bu,.int .i64 y.by'] : Array Value)[o]?) (by kernel_rfl) (fun o => blk_cell (blk_drew k5) o) (fun hHeld => ?_)
   obtain ⟨d0,ed⟩ : ∃ v,v = u5.drew:=⟨_,rfl⟩
   have kd0 : blk d0 g = some #[.slice aw2 3 cw2,.int .i64 y.dr.q,.slice ad2 3 cd2,.int .i64 y.dr.t,.slice ap2 3 cp2,.slice al2 y.l.length cl2,.slice (some ⟨ob2,0,none⟩) 3 cq2,.slice az2 y.sz.length cz2,.int .u64 y.us,.int .i64 y.bu,.int .i64 y.by']:=(by rw [ed];exact blk_drew k5)
   have zd0 : blk d0 (w.heap.size + 1) = some #[.slice none 0 0,.int .i64 0,.slice none 0 0,.int .i64 0,.slice none 0 0]:=(by rw [ed];exact blk_drew z5)
   have bd0 : Below w.heap.size w d0:=(by rw [ed];exact b5.drew)
   have Ed0:=E5
   have Ed0 : Hid (ExitS _ d0 #[.slice aw2 3 cw2,.int .i64 y.dr.q,.slice ad2 3 cd2,.int .i64 y.dr.t,.slice ap2 3 cp2] y.dr y.ps):=Lib.hid (by rw [ed];exact E5.out.below (Below.refl _ _).drew)
   have Rd0 : SRow ic 1 d0 ao co L:=(by rw [ed];exact R5.below (Below.refl _ _).drew)
   rw [← ed] at hHeld ⊢
   clear ed
   refine jK (v:=?_) 0 ?_ ?_
   rotate_left;focus(intro W h;(try dsimp only at h);go_simp;(try with_reducible rfl));(try simp only[Act.put,jA,jB,jC,jD,jE,jF])
   refine jK (v:=?_) 1 ?_ ?_
   rotate_left;focus(intro W h;(try dsimp only at h);go_simp;(try with_reducible rfl));(try simp only[Act.put,jA,jB,jC,jD,jE,jF])
   refine jK (v:=.agg #[.slice aw2 3 cw2,.int .i64 y.dr.q,.slice ad2 3 cd2,.int .i64 y.dr.t,.slice ap2 3 cp2]) 2 ?_ ?_
   focus (intro W hSw;exact load_runW 28 (.tmp 41) g 0 [.slice aw2 3 cw2,.int .i64 y.dr.q,.slice ad2 3 cd2,.int .i64 y.dr.t,.slice ap2 3 cp2] _ rfl rfl W (rangeS5 hSw) Tryd.underlying28 rfl (by kernel_rfl))
   (try simp only[Act.put,jA,jB,jC,jD,jE,jF])
   refine jK (v:=?_) 3 ?_ ?_
   rotate_left;focus(intro W h;(try dsimp only at h);go_simp;(try with_reducible rfl));(try simp only[Act.put,jA,jB,jC,jD,jE,jF])
   refine jR 4 (fun K hK => ?_)
   refine wp_store_midB 28 (.tmp 11) (.tmp 42) (w.heap.size + 1) 0 #[.slice none 0 0,.int .i64 0,.slice none 0 0,.int .i64 0,.slice none 0 0] #[.slice aw2 3 cw2,.int .i64 y.dr.q,.slice ad2 3 cd2,.int .i64 y.dr.t,.slice ap2 3 cp2] #[.slice aw2 3 cw2,.int .i64 y.dr.q,.slice ad2 3 cd2,.int .i64 y.dr.t,.slice ap2 3 cp2] zd0 rfl rfl rfl (by simp) (by kernel_rfl) (by kernel_rfl) (by kernel_rfl) ?_
   intro T kT sT BT zT
   have bT:=BT _ _ (Nat.le_succ w.heap.size) bd0
   have kkT:=blk_same kd0 (show g ≠ w.heap.size + 1 by omega) sT
   have ET:=(Ed0.out.sameB sT (.inl hS1.out.1)).mono (T:=S) (fun b h => .inl (hS1.out.2.2 b h))
   clear BT zT
   refine hK.out _ _ (fun o => blk_cell kkT o) (fun _ => ?_)
   clear hK K
   (try simp only[Act.put,jA,jB,jC,jD,jE,jF])
   refine jK (v:=?_) 5 ?_ ?_
   rotate_left;focus(intro W h;(try dsimp only at h);go_simp;(try with_reducible rfl));(try simp only[Act.put,jA,jB,jC,jD,jE,jF])
   refine wpAnyH_done (by kernel_rfl) ?_ _
   go_wp2
   refine ret_blk (b:=w.heap.size + 1) (c:=#[.slice aw2 3 cw2,.int .i64 y.dr.q,.slice ad2 3 cd2,.int .i64 y.dr.t,.slice ap2 3 cp2]) (v:=.tuple #[.slice ao L.length co,.agg #[.slice aw2 3 cw2,.int .i64 y.dr.q,.slice ad2 3 cd2,.int .i64 y.dr.t,.slice ap2 3 cp2],.int .i64 0]) kT (fun W' hc => by simp [results,Tryd.results11,go_sem,hc]) rfl ?_
   rw [HL.out.1,HL.out.2];exact ⟨ao,co,_,rfl,Rd0.sameB sT (uo.neA (by omega) _),ET,bT,uo.mono (by omega)⟩
end Go.Proofs.YtkaehoihpgelnaaDoor
