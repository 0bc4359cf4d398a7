/- court.Claim at small numbers and what follows. -/
import Derived.Test.YtmjlkkbbnkanpaaGreatDoorHAA
import Derived.Test.YtmjlkkbbnkanpaaGreatDoorHBA
import Derived.Test.YtmjlkkbbnkanpaaGreatDoorHAS
namespace Go.Proofs.YtmjlkkbbnkanpaaGreatDoor
open Go.RowKit
set_option maxRecDepth 100000
def wClaim:List UInt8:=[99,108,97,105,109]
def claimL (d:Nat):List UInt8:=wClaim ++ [32,55,32,56,32,51,32] ++ Lib.itoa (d:Int)
theorem itoa_7:Lib.itoa 7=[55]:=itoa_d 7 (by omega)
theorem itoa_8:Lib.itoa 8=[56]:=itoa_d 8 (by omega)
theorem claim_join (d:Nat):Lib.join [wClaim,[55],[56],[51],Lib.itoa (d:Int)] [32]=claimL d:=by
 simp [Lib.join,List.intercalate_cons_cons,claimL,wClaim]
theorem claimL_len (d:Nat) (h:d<1000000000):(claimL d).length≤40:=by
 have:=itoa_len (d:Int) (by unfold i64in;omega)
 simp [claimL,wClaim]
 omega
def dspV (F A B:ByteArray):Array Value:=#[.int .i64 7,.int .i64 8,.string F,.string A,.string B]
set_option maxHeartbeats 4000000 in
theorem claim_any (F A B:ByteArray) (d:Nat) (hF:bs F=be 3) (hA:bs A=be d) (h0:0<d) (hd:d<1000000000) (w:World) (htab:Tabs w):Calls Tryz.prog 15 #[.agg (dspV F A B)] w (MkS (claimL d) w):=by
 obtain ⟨g,hg⟩:∃ g,w.heap.size=g:=⟨_,rfl⟩
 obtain ⟨w0,hw0⟩:∃ W,w.alloc (.cells (dspV F A B) 42)=W:=⟨_,rfl⟩
 have r0:w0.heap[g]? =some (.cells (dspV F A B) 42 (0,0)):=by rw [← hg,← hw0];exact heap_alloc_new _ _
 have HU0:=Lib.hid (show Upd [] [] w w0 by rw [← hw0];exact (Upd.refl _ _).alloc _)
 have HK:Hid (∀ W,Upd [] [] w0 W→W.cell? ⟨g,0,none⟩=some (.int .i64 7)∧W.cell? ⟨g,1,none⟩=some (.int .i64 8)∧W.cell? ⟨g,2,none⟩=some (.string F)∧W.cell? ⟨g,3,none⟩=some (.string A)):=by
  intro W u
  have q:=row_updH r0 u
  exact ⟨cell_of_row _ g 0 _ _ _ q,cell_of_row _ g 1 _ _ _ q,cell_of_row _ g 2 _ _ _ q,cell_of_row _ g 3 _ _ _ q⟩
 have ud0:Upd [] [] w0 w0.drew:=(Upd.refl _ _).drew
 have HDL:=Lib.hid (claimL_len d hd)
 have HFA:=Lib.hid (And.intro hF hA)
 clear r0 hF hA
 go_enter Tryz.func15,Tryz.ntmps15
 go_upto_region 1 with (fail)
 refine wp_region_noPanic ?_
 refine wp_region_held_drew (S:=fun wp=>wp.cell? ⟨g,0,none⟩=some (.int .i64 7)∧wp.cell? ⟨g,1,none⟩=some (.int .i64 8)∧wp.cell? ⟨g,2,none⟩=some (.string F)∧wp.cell? ⟨g,3,none⟩=some (.string A)) (by kernel_rfl) ?_ (fun hHeld=>?_)
 · exact HK.out _ ud0
 refine tkY 0 hHeld ?_
 refine tkY 1 hHeld ?_
 refine tkY 3 hHeld ?_
 refine tkY 4 hHeld ?_
 refine tkY 6 hHeld ?_
 refine tkY 7 hHeld ?_
 refine tkY 9 hHeld ?_
 refine tkY 10 hHeld ?_
 refine tk1 2 fun K hK=>?_
 go_simp;refine (itoa_is 7 ⟨#[55]⟩ itoa_7 (by unfold i64in;omega) _ (htab.upd (HU0.out.trans ud0))).mono ?_;rintro e wv1 ⟨rfl,hq⟩;have ud1:=ud0.trans hq;clear hq;go_wp2_with fail
 refine tkK hK (HK.out _ ud1) fun hHeld=>?_
 clear hK K
 refine tk1 5 fun K hK=>?_
 go_simp;refine (itoa_is 8 ⟨#[56]⟩ itoa_8 (by unfold i64in;omega) _ (htab.upd (HU0.out.trans ud1))).mono ?_;rintro e wv2 ⟨rfl,hq⟩;have ud2:=ud1.trans hq;clear hq;go_wp2_with fail
 refine tkK hK (HK.out _ ud2) fun hHeld=>?_
 clear hK K
 refine tk1 8 fun K hK=>?_
 go_simp;refine (natText_one F 3 HFA.out.1 (by omega) (by omega) _ (htab.upd (HU0.out.trans ud2))).mono ?_;rintro e wv3 ⟨y3,HY3,_,rfl,hq⟩;have ud3:=ud2.trans hq;clear hq;go_wp2_with fail
 refine tkK hK (HK.out _ ud3) fun hHeld=>?_
 clear hK K
 refine tk1 11 fun K hK=>?_
 go_simp;refine (natText_one A d HFA.out.2 h0 hd _ (htab.upd (HU0.out.trans ud3))).mono ?_;rintro e wv4 ⟨y4,HY4,_,rfl,hq⟩;have ud4:=ud3.trans hq;clear hq;go_wp2_with fail
 refine tkK hK (HK.out _ ud4) fun hHeld=>?_
 clear hK K
 refine tk1 12 fun K hK=>?_
 go_simp
 refine tkK hK (HK.out _ (ud4.alloc _)) fun hHeld=>?_
 clear hK K
 refine tkY 13 hHeld ?_
 refine wpAnyH_done (by kernel_rfl) ?_ _
 refine NoPanic.normal ?_
 go_wp2_with fail
 have hXS:=strsIn_new wv4 [⟨#[99,108,97,105,109]⟩,⟨#[55]⟩,⟨#[56]⟩,y3,y4] 9
 have hjoin:Lib.join (([⟨#[99,108,97,105,109]⟩,⟨#[55]⟩,⟨#[56]⟩,y3,y4]:List ByteArray).map bs) [32]=claimL d:=by
  rw [← claim_join d,← HY4.out,show ([51]:List UInt8)=bs y3 from (HY3.out.trans itoa_3).symm]
  rfl
 have hj:=Tryz.strings_Join wv4.heap.size 0 5 [⟨#[99,108,97,105,109]⟩,⟨#[55]⟩,⟨#[56]⟩,y3,y4] ⟨#[32]⟩ _ hXS.2 hXS.1 (by simp) (by simp) (by
  show (Lib.join (_) [32]).length≤_
  have e:=congrArg List.length hjoin
  exact Nat.le_trans (Nat.le_of_eq e) (by have:=HDL.out;omega))
 refine hj.mono ?_
 rintro e w9 ⟨rfl,hb⟩
 have hu:=upd_of_below hb
 obtain ⟨T,hT⟩:∃ T:ByteArray,T=⟨(Lib.join (([⟨#[99,108,97,105,109]⟩,⟨#[55]⟩,⟨#[56]⟩,y3,y4]:List ByteArray).map (·.data.toList)) (⟨#[32]⟩:ByteArray).data.toList).toArray⟩:=⟨_,rfl⟩
 rw [← hT]
 have HB:Hid (bs T=claimL d):=by
  show _=_
  rw [hT,bs_mk]
  exact hjoin
 have HU:=Lib.hid ((HU0.out.trans (ud4.alloc _)).trans hu)
 clear hj hXS hjoin hb hu hT
 go_wp2_with fail
 go_ret
 exact ⟨T,HB,by rw [← HB.out,bs_length];exact Nat.le_refl _,rfl,HU.out⟩
section
variable {M : Array Value} {aw ar as' bw br bs' low high id pub : Int} {aT bT F A B : ByteArray}
theorem form_any (h:MtIs M aw aT ar as' bw bT br bs' 7 8 F A B id pub) (d:Nat) (hF:bs F=be 3) (hA:bs A=be d) (h0:0<d) (hd:d<1000000000) (hT:bs aT=claimL d) (w:World) (htab:Tabs w) :
 Calls Tryz.prog 89 #[.agg M] w (Mk (.bool true) w):=by
 obtain ⟨g,hg⟩:∃ g,w.heap.size=g:=⟨_,rfl⟩
 obtain ⟨w0,hw0⟩:∃ W,w.alloc (.cells M 106)=W:=⟨_,rfl⟩
 have r0:w0.heap[g]? =some (.cells M 106 (0,0)):=by rw [← hg,← hw0];exact heap_alloc_new _ _
 have HU0:=Lib.hid (show Upd [] [] w w0 by rw [← hw0];exact (Upd.refl _ _).alloc _)
 have HK:Hid (∀ W,Upd [] [] w0 W→W.cell? ⟨g,9,none⟩=some (.string aT)∧(Instr.loadAt 42 (.pointer (some ⟨g,16,none⟩))).run Tryz.prog W=.ok (.agg (dspV F A B)) W):=by
  intro W u
  have q:=row_updH r0 u
  refine ⟨(cell_of_row _ g 9 _ _ _ q).trans h.a1,run_loadAt_mid W g 16 42 [.int .i64 7,.int .i64 8,.string F,.string A,.string B] _ (fun j v hv=>?_) Tryz.underlying42 rfl (by kernel_rfl)⟩
  match j,hv with
  | 0,hv=>simp at hv;subst hv;exact (cell_of_row _ g 16 _ _ _ q).trans h.d0
  | 1,hv=>simp at hv;subst hv;exact (cell_of_row _ g 17 _ _ _ q).trans h.d1
  | 2,hv=>simp at hv;subst hv;exact (cell_of_row _ g 18 _ _ _ q).trans h.d2
  | 3,hv=>simp at hv;subst hv;exact (cell_of_row _ g 19 _ _ _ q).trans h.d3
  | 4,hv=>simp at hv;subst hv;exact (cell_of_row _ g 20 _ _ _ q).trans h.d4
 have ud0:Upd [] [] w0 w0.drew:=(Upd.refl _ _).drew
 have HFA:=Lib.hid (And.intro hF hA)
 have HT:=Lib.hid hT
 clear h r0 hF hA hT
 go_enter Tryz.func89,Tryz.ntmps89
 go_upto_region 1 with (fail)
 refine wp_region_noPanic ?_
 refine wp_region_held_drew (S:=fun wp=>wp.cell? ⟨g,9,none⟩=some (.string aT)∧(Instr.loadAt 42 (.pointer (some ⟨g,16,none⟩))).run Tryz.prog wp=.ok (.agg (dspV F A B)) wp) (by kernel_rfl) ?_ (fun hHeld=>?_)
 · exact HK.out _ ud0
 refine tkY 0 hHeld ?_
 refine tkY 1 hHeld ?_
 refine tkY 2 hHeld ?_
 refine tkY 3 hHeld ?_
 refine tkY 4 hHeld ?_
 refine tkY 5 hHeld ?_
 refine wpAnyH_take (i:=6) (v:=.agg (dspV F A B)) (by simp only [List.getElem?_toArray,List.getElem?_cons_succ,List.getElem?_cons_zero] <;> rfl) (by kernel_rfl) (by kernel_rfl) (by kernel_rfl) (fun _ _ _ h=>h) (yieldsIf_loadW (by rfl) _ _ rfl _ rfl (dspV F A B) (fun w hSw=>hSw.2)) hHeld ?_
 try simp only [Act.put,List.setIfInBounds_toArray,List.set_cons_zero,List.set_cons_succ]
 refine tk1 7 fun K hK=>?_
 go_simp;refine (claim_any F A B d HFA.out.1 HFA.out.2 h0 hd _ (htab.upd (HU0.out.trans ud0))).mono ?_;rintro e wv1 ⟨y,HY,_,rfl,hq⟩;obtain rfl:y=aT:=(bs_inj (HY.out.trans HT.out.symm));have ud1:=ud0.trans hq;clear hq;go_wp2_with fail
 refine tkK hK (HK.out _ ud1) fun hHeld=>?_
 clear hK K
 refine tkY 8 hHeld ?_
 refine tkY 9 hHeld ?_
 refine wpAnyH_done (by kernel_rfl) ?_ _
 refine NoPanic.normal ?_
 go_wp2_with fail
 go_ret
 exact ⟨rfl,HU0.out.trans ud1⟩
end
theorem dspSInfo (F A B:ByteArray):(Tryz.prog.info? 42).map (·.size)=some (dspV F A B).size:=by
 show _=some 5
 kernel_rfl
theorem dspSOne (F A B:ByteArray):(dspV F A B).all (·.oneCell')=true:=by simp [dspV,Value.oneCell']
section
variable {M : Array Value} {aw ar as' bw br bs' low high id pub : Int} {aT bT F A B : ByteArray}
set_option maxHeartbeats 4000000 in
theorem falseEnd_any (h:MtIs M aw aT ar as' bw bT br bs' 7 8 F A B id pub) (q:Bool) (z:Int) (hq:(z != 0)=q) (w:World)
 (hF:bs F=be 3) (hC:∀ (y:ByteArray) (W:World),bs y=be 9→Calls Tryz.prog 149 #[.string y,.string A] W (MkInt z W)) :
 Calls Tryz.prog 90 #[.agg M] w (Mk (.bool q) w):=by
 obtain ⟨g,hg⟩:∃ g,w.heap.size=g:=⟨_,rfl⟩
 obtain ⟨w0,hw0⟩:∃ W,w.alloc (.cells M 106)=W:=⟨_,rfl⟩
 have r0:w0.heap[g]? =some (.cells M 106 (0,0)):=by rw [← hg,← hw0];exact heap_alloc_new _ _
 have HU0:=Lib.hid (show Upd [] [] w w0 by rw [← hw0];exact (Upd.refl _ _).alloc _)
 have HL:Hid (∀ W,W.heap[g]? =some (.cells M 106 (0,0))→(Instr.loadAt 42 (.pointer (some ⟨g,16,none⟩))).run Tryz.prog W=.ok (.agg (dspV F A B)) W):=by
  intro W q
  refine run_loadAt_mid W g 16 42 [.int .i64 7,.int .i64 8,.string F,.string A,.string B] _ (fun j v hv=>?_) Tryz.underlying42 rfl (by kernel_rfl)
  match j,hv with
  | 0,hv=>simp at hv;subst hv;exact (cell_of_row _ g 16 _ _ _ q).trans h.d0
  | 1,hv=>simp at hv;subst hv;exact (cell_of_row _ g 17 _ _ _ q).trans h.d1
  | 2,hv=>simp at hv;subst hv;exact (cell_of_row _ g 18 _ _ _ q).trans h.d2
  | 3,hv=>simp at hv;subst hv;exact (cell_of_row _ g 19 _ _ _ q).trans h.d3
  | 4,hv=>simp at hv;subst hv;exact (cell_of_row _ g 20 _ _ _ q).trans h.d4
 obtain ⟨w1,Z1,W1,R1,hq1⟩:=blk_new w0 42 #[.int .i64 0,.int .i64 0,.string ⟨#[]⟩,.string ⟨#[]⟩,.string ⟨#[]⟩] (dspV F A B)
 obtain ⟨gD,hgD⟩:∃ g,w0.heap.size=g:=⟨_,rfl⟩
 rw [hgD] at Z1 W1 R1
 have HLD0:Hid ((Instr.loadAt 42 (.pointer (some ⟨g,16,none⟩))).run Tryz.prog (w0.alloc (.cells #[.int .i64 0,.int .i64 0,.string ⟨#[]⟩,.string ⟨#[]⟩,.string ⟨#[]⟩] 42))=.ok (.agg (dspV F A B)) _):=HL.out _ (row_updH r0 ((Upd.refl _ _).alloc _))
 have HLD1:Hid ((Instr.loadAt 42 (.pointer (some ⟨g,16,none⟩))).run Tryz.prog w0=.ok (.agg (dspV F A B)) w0):=HL.out _ r0
 have U1:=Lib.hid (HU0.out.trans hq1)
 have HDI:=Lib.hid (dspSInfo F A B)
 have HDO:=Lib.hid (dspSOne F A B)
 have k0:=(cell_of_row _ gD 0 _ _ _ R1.out).trans (show _=some (Value.int .i64 7) from rfl)
 have k1:=(cell_of_row _ gD 1 _ _ _ R1.out).trans (show _=some (Value.int .i64 8) from rfl)
 have HK:Hid (∀ W,Upd [] [] w1 W→W.cell? ⟨gD,2,none⟩=some (.string F)∧W.cell? ⟨gD,3,none⟩=some (.string A)):=by
  intro W u
  have q:=row_updH R1.out u
  exact ⟨cell_of_row _ gD 2 _ _ _ q,cell_of_row _ gD 3 _ _ _ q⟩
 have ud0:Upd [] [] w1 w1.drew:=(Upd.refl _ _).drew
 have HF:=Lib.hid hF
 have HC:=Lib.hid hC
 have HQ:=Lib.hid hq
 obtain ⟨D,hD⟩:∃ D,D=dspV F A B:=⟨_,rfl⟩
 have HDZ:Hid ((#[.int .i64 0,.int .i64 0,.string ⟨#[]⟩,.string ⟨#[]⟩,.string ⟨#[]⟩]:Array Value).size=D.size):=by rw [hD];rfl
 rw [← hD] at W1 HDI HDO HLD0 HLD1
 clear h r0 hF hC HL hq1 hq hD
 go_enter Tryz.func90,Tryz.ntmps90
 go_upto_region 4 with (first | (refine wpList_load_atW (by rfl) 42 _ rfl g 16 rfl D HLD0.out ?_) | (refine wpList_load_atW (by rfl) 42 _ rfl g 16 rfl D HLD1.out ?_) | (refine wpList_store_rowAs rfl 42 _ _ rfl gD D rfl rfl _ _ Z1.out HDI.out HDZ.out HDO.out w1 W1.out ?_))
 refine wp_region_noPanic ?_
 refine wp_region_held_drew (S:=fun wp=>wp.cell? ⟨gD,2,none⟩=some (.string F)∧wp.cell? ⟨gD,3,none⟩=some (.string A)) (by kernel_rfl) ?_ (fun hHeld=>?_)
 · exact HK.out _ ud0
 refine tkY 0 hHeld ?_
 refine tkY 1 hHeld ?_
 refine tkY 3 hHeld ?_
 refine tkY 4 hHeld ?_
 refine tk1 2 fun K hK=>?_
 go_simp;refine (square3 F HF.out _).mono ?_;rintro e wv1 ⟨y,HY,rfl,hq⟩;have ud1:=ud0.trans hq;clear hq;go_wp2_with fail
 refine tkK hK (HK.out _ ud1) fun hHeld=>?_
 clear hK K
 refine tk1 5 fun K hK=>?_
 go_simp;refine (HC.out y _ HY.out).mono ?_;rintro e wv2 ⟨rfl,hq⟩;have ud2:=ud1.trans hq;clear hq;go_wp2_with fail
 refine tkK hK (HK.out _ ud2) fun hHeld=>?_
 clear hK K
 refine tkY 6 hHeld ?_
 refine tkY 7 hHeld ?_
 refine wpAnyH_done (by kernel_rfl) ?_ _
 refine NoPanic.normal ?_
 go_wp2_with fail
 go_ret
 first | exact ⟨rfl,U1.out.trans ud2⟩ | exact ⟨by show Ending.returned (.bool (z != 0))=_;rw [HQ.out],U1.out.trans ud2⟩
end
def MkVtS (who:Int) (x:Nat) (T:ByteArray) (w:World) (e:Ending) (w':World):Prop :=
 ∃ a b:Nat,Hid (a=gP (nonceN x (bs T)))∧Hid (b=sWith x (nonceN x (bs T)) (bs T))∧a<2305843009213691579∧b<1152921504606845789∧e=.returned (.agg #[.int .i64 who,.string T,.int .i64 (a:Int),.int .i64 (b:Int)])∧Upd [] [] w w'
theorem signVote_any (x:Nat) (hx:x<1152921504606845789) (T:ByteArray) (hT:T.size≤140737488355000) (w:World) (htab:Tabs w):Calls Tryz.prog 16 #[.int .i64 3,.int .i64 (x:Int),.string T] w (MkVtS 3 x T w):=by
 obtain ⟨gR,hgR⟩:∃ g,w.heap.size=g:=⟨_,rfl⟩
 obtain ⟨w1,hw1⟩:∃ W,w.alloc (.cells #[.int .i64 0,.string ⟨#[]⟩,.int .i64 0,.int .i64 0] 39)=W:=⟨_,rfl⟩
 have r1:=Lib.hid (show w1.heap[gR]? =some (.cells #[.int .i64 0,.string ⟨#[]⟩,.int .i64 0,.int .i64 0] 39 (0,0)) by rw [← hgR,← hw1];exact heap_alloc_new _ _)
 have U1:=Lib.hid (show Upd [] [] w w1 by rw [← hw1];exact (Upd.refl _ _).alloc _)
 have HG:Hid (w.heap.size≤gR):=Nat.le_of_eq hgR
 go_enter Tryz.func16,Tryz.ntmps16
 go_wp2_with fail
 refine (sign_any (x:Int) T w1 ⟨by omega,by omega⟩ hT (htab.upd U1.out)).mono ?_
 rintro e w2 ⟨a,b,HA,HB,ha,hb,rfl,hq⟩
 rw [show expN (x:Int)=x from expN_of hx] at HA HB
 have r2:=Lib.hid (row_updH r1.out hq)
 have U2:=Lib.hid (U1.out.trans hq)
 have hvi:=Lib.hid (voteInfo T (a:Int) (b:Int))
 obtain ⟨V,hV⟩:∃ V,V=voteV T (a:Int) (b:Int):=⟨_,rfl⟩
 obtain ⟨w3,hw3⟩:∃ W,w2.setRow gR (voteV T (a:Int) (b:Int))=W:=⟨_,rfl⟩
 have r3:(w2.setRow gR (voteV T (a:Int) (b:Int))).heap[gR]? =some (.cells (voteV T (a:Int) (b:Int)) 39 (0,0)):=setRow_heap _ _ _ _ _ _ r2.out
 have U3:=U2.out.setRowNew HG.out (voteV T (a:Int) (b:Int))
 rw [hw3] at r3 U3
 have HW3:=Lib.hid hw3
 have R3:=Lib.hid r3
 have HU3:=Lib.hid U3
 clear hq r1 hw3 r3 U3 hV
 go_wp2_with (first | (refine wpList_store_rowAs rfl 39 _ _ rfl gR (voteV T (a:Int) (b:Int)) rfl rfl _ _ r2.out hvi.out rfl (voteOne _ _ _) w3 HW3.out ?_))
 refine bodyPost_ret (results_cell_row rfl _ _ gR _ (voteV T (a:Int) (b:Int)) _ _ rfl R3.out Tryz.underlying39 rfl hvi.out) rfl ⟨a,b,HA,HB,ha,hb,rfl,HU3.out⟩
def mbrV (id wt pub:Int):Array Value:=#[.int .i64 id,.int .i64 wt,.int .i64 pub]
theorem judgeG_any (id wt pub who:Int) (gE:Nat) (w:World) (hE:w.cell? ⟨gE,1,none⟩=some (.int .i64 who)):Calls Tryz.prog 44 #[.agg (mbrV id wt pub),.pointer (some ⟨gE,0,none⟩)] w (MkB (id == who) w):=by
 obtain ⟨g,hg⟩:∃ g,w.heap.size=g:=⟨_,rfl⟩
 obtain ⟨w0,hw0⟩:∃ W,w.alloc (.cells (mbrV id wt pub) 52)=W:=⟨_,rfl⟩
 have r0:w0.heap[g]? =some (.cells (mbrV id wt pub) 52 (0,0)):=by rw [← hg,← hw0];exact heap_alloc_new _ _
 have u0:Upd [] [] w w0:=by rw [← hw0];exact (Upd.refl _ _).alloc _
 have U0:=Lib.hid u0
 have c0:=(cell_of_row _ g 0 _ _ _ r0).trans (show _=some (Value.int .i64 id) from rfl)
 have c1:w0.cell? ⟨gE,1,none⟩=some (.int .i64 who):=(u0.cell (World.block_lt_of_cell? _ _ hE) (by simp)).trans hE
 clear r0 u0 hE
 go_enter Tryz.func44,Tryz.ntmps44
 go_wp2_with fail
 go_ret
 exact ⟨_,rfl,rfl,U0.out⟩
theorem memIdx_some {who:Int} {l:List Mem} {k:Nat} {m:Mem} (h:l[k]? =some m) (he:m.id=who) (hp:∀ j,j<k→∀ x,l[j]? =some x→x.id≠who):memIdx who l=some k:=by
 obtain ⟨hl,hv⟩:=List.getElem?_eq_some_iff.1 h
 unfold memIdx
 rw [List.findIdx?_eq_some_iff_getElem]
 refine ⟨hl,by rw [hv];simpa using he,fun j hj=>?_⟩
 simpa using hp j hj l[j] (List.getElem?_eq_getElem (by omega))
theorem memIdx_none {who:Int} {l:List Mem} (hp:∀ j,j<l.length→∀ x,l[j]? =some x→x.id≠who):memIdx who l=none:=by
 unfold memIdx
 rw [List.findIdx?_eq_none_iff]
 intro x hx
 obtain ⟨j,hj,rfl⟩:=List.getElem_of_mem hx
 simpa using hp j hj _ (List.getElem?_eq_getElem hj)
set_option maxHeartbeats 1000000 in
theorem idxG_any (who:Int) (l:List Mem) (ao:Option Addr) (n c gE:Nat) (w:World) (hn:n=l.length) (hc:n≤c) (hm:n≤1000000) (hM:MbsIn w ao l) (hE:w.cell? ⟨gE,1,none⟩=some (.int .i64 who)) :
 Calls Tryz.prog 43 #[.slice ao n c,.func (.func 44) #[] #[.pointer (some ⟨gE,0,none⟩)]] w (Mk (.int .i64 (idxV (memIdx who l))) w):=by
 have HN:=Lib.hid hn
 have HM:=Lib.hid hM
 have HE:Hid (gE<w.heap.size∧w.cell? ⟨gE,1,none⟩=some (.int .i64 who)):=⟨World.block_lt_of_cell? _ _ hE,hE⟩
 clear hn hM hE
 go_enter Tryz.func43,Tryz.ntmps43
 go_wp2_with fail
 go_loopw [5,8] (fun _ i wr=>∃ k:Nat,i=.int .i64 (k:Int)∧k≤n∧Hid (∀ j,j<k→∀ m,l[j]? =some m→m.id≠who)∧Hid (Upd [] [] w wr)) (fun _ i _=>n - (intOf i).toNat)
 case atStart=>exact ⟨0,rfl,Nat.zero_le _,fun j hj=>absurd hj (by omega),Upd.refl _ _⟩
 case round =>
  obtain ⟨k,rfl,hk,HP,HU⟩:=hrel
  by_cases hlt:k<n
  · obtain ⟨⟨id,wt,pub⟩,hm'⟩:∃ m,l[k]? =some m:=⟨_,List.getElem?_eq_getElem (by rw [← HN.out];exact hlt)⟩
    obtain ⟨g,hg,hgl,HL⟩:=(HM.out.upd HU.out).row hm'
    have HLW:=Lib.hid (HL wr (Upd.refl _ _))
    have HJ:=Lib.hid (judgeG_any id wt pub who gE wr ((HU.out.cell HE.out.1 (by simp)).trans HE.out.2))
    have HMK:=Lib.hid hm'
    have i0:(0:Int)≤(k:Int):=by omega
    have i1:(k:Int)<(n:Int):=by omega
    subst hg
    clear HL hm' hgl
    go_wp2_with (first | (refine wpList_load_atW (by rfl) 52 _ rfl g (k * 3) rfl (mbrV id wt pub) HLW.out ?_) | (go_at_fn 44))
    refine HJ.out.mono ?_
    rintro e w1 ⟨b,HB,rfl,hq⟩
    have HU1:=Lib.hid (HU.out.trans hq)
    clear hq HJ HLW HU
    cases b with
    | false =>
     have HP1:Hid (∀ j,j<k+1→∀ m,l[j]? =some m→m.id≠who):=by
      intro j hj m hm
      by_cases hjk:j<k
      · exact HP.out j hjk m hm
      · obtain rfl:j=k:=by omega
        rw [HMK.out] at hm
        injection hm with hm
        rw [← hm]
        have:=HB.out
        intro e
        rw [show id=who from e] at this
        simp at this
     go_wp2_with fail
     exact ⟨⟨k+1,by go_num,by omega,HP1.out,HU1.out⟩,by first | (simp [intOf];done) | (simp [intOf];omega)⟩
    | true =>
     have HX:Hid (memIdx who l=some k):=memIdx_some HMK.out (by have:=HB.out;exact (beq_iff_eq.1 this.symm)) HP.out
     go_wp2_with fail
     go_ret
     exact ⟨by rw [HX.out];rfl,HU1.out⟩
  · obtain rfl:k=n:=by omega
    have HX:Hid (memIdx who l=none):=memIdx_none (by rw [← HN.out];exact HP.out)
    go_wp2_with fail
    go_ret
    exact ⟨by rw [HX.out];rfl,HU.out⟩
def mtG (ma:Option Addr) (mn mc:Nat) (ca:Option Addr) (cn cc:Nat) (pa:Option Addr) (pn pc:Nat) (ka:Option Addr) (kn kc:Nat) (sq dep:Int) (kind who aw:Int) (aT:ByteArray) (ar as' bw:Int) (bT:ByteArray) (br bs' low high:Int) (F A B:ByteArray) (ci ck c1 c2 i:Int) (id wt pub:Int):Array Value :=
 #[.slice ma mn mc,.slice ca cn cc,.slice pa pn pc,.slice ka kn kc,.int .i64 sq,.int .i64 dep,.int .i64 kind,.int .i64 who,.int .i64 aw,.string aT,.int .i64 ar,.int .i64 as',.int .i64 bw,.string bT,.int .i64 br,.int .i64 bs',.int .i64 low,.int .i64 high,.string F,.string A,.string B,.int .i64 ci,.int .i64 ck,.int .i64 c1,.int .i64 c2,.int .i64 i,.int .i64 id,.int .i64 wt,.int .i64 pub]
theorem MtIs.ofG (ma:Option Addr) (mn mc:Nat) (ca:Option Addr) (cn cc:Nat) (pa:Option Addr) (pn pc:Nat) (ka:Option Addr) (kn kc:Nat) (sq dep:Int) (kind who aw:Int) (aT:ByteArray) (ar as' bw:Int) (bT:ByteArray) (br bs' low high:Int) (F A B:ByteArray) (ci ck c1 c2 i:Int) (id wt pub:Int) :
 MtIs (mtG ma mn mc ca cn cc pa pn pc ka kn kc sq dep kind who aw aT ar as' bw bT br bs' low high F A B ci ck c1 c2 i id wt pub) aw aT ar as' bw bT br bs' low high F A B id pub :=
 ⟨rfl,rfl,rfl,rfl,rfl,rfl,rfl,rfl,rfl,rfl,rfl,rfl,rfl,rfl,rfl,rfl⟩
def MkPB (P:Bool→Prop) (w:World) (e:Ending) (w':World):Prop:=∃ b:Bool,Hid (P b)∧e=.returned (.bool b)∧Upd [] [] w w'
def JgPost (PF PG PP:Bool→Prop) (who:Int) (w:World) (e:Ending) (w':World):Prop :=
 ∃ x y:Int,((PF false∧x=0∧y=11)∨(PF true∧PG false∧x=0∧y=21)∨(PF true∧PG true∧PP false∧x=0∧y=25)∨(PF true∧PG true∧PP true∧x=who∧y=0))∧e=.returned (.tuple #[.int .i64 x,.int .i64 y])∧Upd [] [] w w'
theorem evG_load {kind who aw:Int} {aT:ByteArray} {ar as' bw:Int} {bT:ByteArray} {br bs' low high:Int} {F A B:ByteArray} {ci ck c1 c2:Int} {g:Nat} {W:World} (h:W.heap[g]? =some (.cells #[.int .i64 kind,.int .i64 who,.int .i64 aw,.string aT,.int .i64 ar,.int .i64 as',.int .i64 bw,.string bT,.int .i64 br,.int .i64 bs',.int .i64 low,.int .i64 high,.string F,.string A,.string B,.int .i64 ci,.int .i64 ck,.int .i64 c1,.int .i64 c2] 48 (0,0))) :
 (Instr.loadAt 48 (.pointer (some ⟨g,0,none⟩))).run Tryz.prog W=.ok (.agg #[.int .i64 kind,.int .i64 who,.int .i64 aw,.string aT,.int .i64 ar,.int .i64 as',.int .i64 bw,.string bT,.int .i64 br,.int .i64 bs',.int .i64 low,.int .i64 high,.string F,.string A,.string B,.int .i64 ci,.int .i64 ck,.int .i64 c1,.int .i64 c2]) W :=
 run_loadAt_mid W g 0 48 [.int .i64 kind,.int .i64 who,.int .i64 aw,.string aT,.int .i64 ar,.int .i64 as',.int .i64 bw,.string bT,.int .i64 br,.int .i64 bs',.int .i64 low,.int .i64 high,.string F,.string A,.string B,.int .i64 ci,.int .i64 ck,.int .i64 c1,.int .i64 c2] _ (row_range rfl h) Tryz.underlying48 rfl (by show _=some 19;kernel_rfl)
theorem sup_load {l:List Value} {g:Nat} {W:World} (hl:l.length=6) (h:W.heap[g]? =some (.cells l.toArray 30 (0,0))) :
 (Instr.loadAt 30 (.pointer (some ⟨g,0,none⟩))).run Tryz.prog W=.ok (.agg l.toArray) W :=
 run_loadAt_mid W g 0 30 _ _ (row_range rfl h) Tryz.underlying30 rfl (by rw [hl];kernel_rfl)
set_option maxHeartbeats 8000000 in
theorem judge_mem (gM:Nat) (mn mc:Nat) (ca:Option Addr) (cn cc:Nat) (pa:Option Addr) (pn pc:Nat) (ka:Option Addr) (kn kc:Nat) (sq dep:Int) (kind who aw:Int) (aT:ByteArray) (ar as' bw:Int) (bT:ByteArray) (br bs' low high:Int) (F A B:ByteArray) (ci ck c1 c2:Int) (f1 f2 f3:Nat) (hk:crtF kind=some (crtV false f1 f2 f3)) (hkb:-9223372036854775808≤kind∧kind≤9223372036854775807)
 (l:List Mem) (hln:mn=l.length) (hlc:mn≤mc) (hlm:mn≤1000000) (i:Nat) (wt pub:Int) (hi:memIdx who l=some i) (hm:l[i]? =some ⟨who,wt,pub⟩) (PF PG PP:Bool→Prop) (w:World) (hM:MbsIn w (some ⟨gM,0,none⟩) l)
 (hb1:∀ (A:Array Value) (W:World),(callFunc f1 A).run Tryz.prog W=.ok (.enter f1 A) W)
 (hb2:∀ (A:Array Value) (W:World),(callFunc f2 A).run Tryz.prog W=.ok (.enter f2 A) W)
 (hb3:∀ (A:Array Value) (W:World),(callFunc f3 A).run Tryz.prog W=.ok (.enter f3 A) W)
 (hF:∀ W,Upd [] [] w W→Calls Tryz.prog f1 #[.agg (mtG (some ⟨gM,0,none⟩) mn mc ca cn cc pa pn pc ka kn kc sq dep kind who aw aT ar as' bw bT br bs' low high F A B ci ck c1 c2 (i:Int) who wt pub)] W (MkPB PF W))
 (hG:PF true→∀ W,Upd [] [] w W→Calls Tryz.prog f2 #[.agg (mtG (some ⟨gM,0,none⟩) mn mc ca cn cc pa pn pc ka kn kc sq dep kind who aw aT ar as' bw bT br bs' low high F A B ci ck c1 c2 (i:Int) who wt pub)] W (MkPB PG W))
 (hP:PF true→PG true→∀ W,Upd [] [] w W→Calls Tryz.prog f3 #[.agg (mtG (some ⟨gM,0,none⟩) mn mc ca cn cc pa pn pc ka kn kc sq dep kind who aw aT ar as' bw bT br bs' low high F A B ci ck c1 c2 (i:Int) who wt pub)] W (MkPB PP W)) :
 Calls Tryz.prog 10 #[.agg #[.slice (some ⟨gM,0,none⟩) mn mc,.slice ca cn cc,.slice pa pn pc,.slice ka kn kc,.int .i64 sq,.int .i64 dep],.agg #[.int .i64 kind,.int .i64 who,.int .i64 aw,.string aT,.int .i64 ar,.int .i64 as',.int .i64 bw,.string bT,.int .i64 br,.int .i64 bs',.int .i64 low,.int .i64 high,.string F,.string A,.string B,.int .i64 ci,.int .i64 ck,.int .i64 c1,.int .i64 c2]] w (JgPost PF PG PP who w):=by
 obtain ⟨gS,hgS⟩:∃ g,w.heap.size=g:=⟨_,rfl⟩
 obtain ⟨w0,hw0⟩:∃ W,w.alloc (.cells #[.slice (some ⟨gM,0,none⟩) mn mc,.slice ca cn cc,.slice pa pn pc,.slice ka kn kc,.int .i64 sq,.int .i64 dep] 30)=W:=⟨_,rfl⟩
 have r0:w0.heap[gS]? =some (.cells #[.slice (some ⟨gM,0,none⟩) mn mc,.slice ca cn cc,.slice pa pn pc,.slice ka kn kc,.int .i64 sq,.int .i64 dep] 30 (0,0)):=by rw [← hgS,← hw0];exact heap_alloc_new _ _
 have u0:Upd [] [] w w0:=by rw [← hw0];exact (Upd.refl _ _).alloc _
 obtain ⟨gE,hgE⟩:∃ g,w0.heap.size=g:=⟨_,rfl⟩
 obtain ⟨w1,hw1⟩:∃ W,w0.alloc (.cells #[.int .i64 kind,.int .i64 who,.int .i64 aw,.string aT,.int .i64 ar,.int .i64 as',.int .i64 bw,.string bT,.int .i64 br,.int .i64 bs',.int .i64 low,.int .i64 high,.string F,.string A,.string B,.int .i64 ci,.int .i64 ck,.int .i64 c1,.int .i64 c2] 48)=W:=⟨_,rfl⟩
 have r1:w1.heap[gE]? =some (.cells #[.int .i64 kind,.int .i64 who,.int .i64 aw,.string aT,.int .i64 ar,.int .i64 as',.int .i64 bw,.string bT,.int .i64 br,.int .i64 bs',.int .i64 low,.int .i64 high,.string F,.string A,.string B,.int .i64 ci,.int .i64 ck,.int .i64 c1,.int .i64 c2] 48 (0,0)):=by rw [← hgE,← hw1];exact heap_alloc_new _ _
 have u1:Upd [] [] w0 w1:=by rw [← hw1];exact (Upd.refl _ _).alloc _
 have U1:=Lib.hid (u0.trans u1)
 have HS:=Lib.hid (row_updH r0 u1)
 have HE:=Lib.hid r1
 have HM:=Lib.hid (hM.upd (u0.trans u1))
 have ud0:Upd [] [] w1 w1.drew:=(Upd.refl _ _).drew
 have HK:Hid (∀ W,Upd [] [] w1 W→W.cell? ⟨gE,0,none⟩=some (.int .i64 kind)):=fun W u=>cell_of_row _ gE 0 _ _ _ (row_updH HE.out u)
 have hmf:∀ (fn:Fn) (first cap:Array Value) (w:World),(Instr.makeFunc fn first cap).run Tryz.prog w=.ok (.func fn first cap) w:=fun _ _ _ _=>rfl
 have HF:=Lib.hid hF
 have HG:=Lib.hid hG
 have HP:=Lib.hid hP
 have HKK:=Lib.hid hk
 have HB1':=Lib.hid hb1
 have HB2':=Lib.hid hb2
 have HB3':=Lib.hid hb3
 have HKB:=Lib.hid hkb
 have HI:=Lib.hid (And.intro hi hm)
 have HL:=Lib.hid hln
 have hci:(Tryz.prog.info? 99).map (·.size)=some (#[.bool false,.func (.func f1) #[] #[],.func (.func f2) #[] #[],.func (.func f3) #[] #[]]:Array Value).size:=by show _=some 4;kernel_rfl
 have HCI:=Lib.hid hci
 clear r0 u0 r1 u1 hM hF hG hP hci hk hkb hi hm hln hb1 hb2 hb3
 go_enter Tryz.func10,Tryz.ntmps10
 go_upto_region 1 with (fail)
 refine @_root_.id ((∀ (bM gC:Nat) (W:World),Hid (W.heap[gC]? =some (.cells #[.bool false,.func (.func f1) #[] #[],.func (.func f2) #[] #[],.func (.func f3) #[] #[]] 99 (0,0)))→Hid (Upd [] [] w1 W)→(?pj1:Nat→Nat→World→Prop) bM gC W)→_) (fun hJ=>?mj1) ?jj1
 case mj1 =>
  refine wp_region_noPanic ?_
  refine wp_region_held_drew (S:=fun wp=>wp.cell? ⟨gE,0,none⟩=some (.int .i64 kind)) (by kernel_rfl) ?_ (fun hHeld=>?_)
  · exact HK.out _ ud0
  refine tkY 1 hHeld ?_
  refine tkY 2 hHeld ?_
  refine tkA [0,7] ?_
  refine tkC (fun K hK=>?_) ?_
  · go_simp;refine (courts_any _).mono ?_;rintro e wv1 ⟨bM,rfl,HMF,hq⟩;have ud1:=ud0.trans hq;clear hq;have HM_1:=HMF;clear HMF;go_wp2_with fail
    refine tkK hK (HK.out _ ud1) fun hHeld=>?_
    clear hK K
    refine tkA [3,7] ?_
    refine tkC (fun K hK=>?_) ?_
    · have hlk:=(HM_1.out.look_ok (x:=kind) undC (zeroC wv1) HKB.out).trans (congrArg (fun z=>Result.ok z wv1) (show _=Value.tuple #[.agg #[.bool false,.func (.func f1) #[] #[],.func (.func f2) #[] #[],.func (.func f3) #[] #[]],.bool true] from (by rw [HKK.out];rfl)));go_wp2_with fail;clear hlk HM_1
      refine tkK hK (HK.out _ ud1) fun hHeld=>?_
      clear hK K
      refine tkY 4 hHeld ?_
      refine tkY 5 hHeld ?_
      refine tkY 6 hHeld ?_
      refine tk1 7 fun K hK=>?_
      go_simp;obtain ⟨gC,wv2,hgx,hwx,fC_2,hq⟩:=alloc_let wv1 (.cells #[.bool false,.nilFunc,.nilFunc,.nilFunc] 99);rw [← hgx,← hwx];have bC:w1.heap.size≤gC:=(by have:=ud1.size;omega);have ud2:=ud1.trans hq;clear hgx hwx hq
      refine tkK hK (HK.out _ ud2) fun hHeld=>?_
      clear hK K
      refine tk1 8 fun K hK=>?_
      rw [if_pos (by rfl)];refine wp_store_row 99 _ _ rfl gC #[.bool false,.func (.func f1) #[] #[],.func (.func f2) #[] #[],.func (.func f3) #[] #[]] rfl rfl _ _ fC_2.out HCI.out rfl (by simp [Value.oneCell']) ?_;obtain ⟨wv3,hwx⟩:∃ W':World,W'=wv2.setRow gC #[.bool false,.func (.func f1) #[] #[],.func (.func f2) #[] #[],.func (.func f3) #[] #[]]:=⟨_,rfl⟩;have fC_3:Hid (wv3.heap[gC]? =some (.cells #[.bool false,.func (.func f1) #[] #[],.func (.func f2) #[] #[],.func (.func f3) #[] #[]] 99 (0,0))):=(by show _=_;rw [hwx];exact setRow_heap _ _ _ _ _ _ fC_2.out);have ud3:=ud2.setRowNew bC #[.bool false,.func (.func f1) #[] #[],.func (.func f2) #[] #[],.func (.func f3) #[] #[]];rw [← hwx] at ud3 ⊢;clear hwx
      refine tkK hK (HK.out _ ud3) fun hHeld=>?_
      clear hK K
      refine tkY 9 hHeld ?_
      refine wpAnyH_done (by kernel_rfl) ?_ _
      refine NoPanic.normal ?_
      exact hJ bM gC wv3 fC_3 (Lib.hid ud3)
    refine tkZ fun K hK=>?_
    go_simp;obtain ⟨gC,wv2,hgx,hwx,fC_2,hq⟩:=alloc_let wv1 (.cells #[.bool false,.nilFunc,.nilFunc,.nilFunc] 99);rw [← hgx,← hwx];have bC:w1.heap.size≤gC:=(by have:=ud1.size;omega);have ud2:=ud1.trans hq;have HM_2:=Lib.hid (HM_1.out.upd hq (by simp));clear HM_1;clear hgx hwx hq
    refine tkK hK (HK.out _ ud2) fun hHeld=>?_
    clear hK K
    refine tk1 3 fun K hK=>?_
    have hlk:=(HM_2.out.look_ok (x:=kind) undC (zeroC wv2) HKB.out).trans (congrArg (fun z=>Result.ok z wv2) (show _=Value.tuple #[.agg #[.bool false,.func (.func f1) #[] #[],.func (.func f2) #[] #[],.func (.func f3) #[] #[]],.bool true] from (by rw [HKK.out];rfl)));go_wp2_with fail;clear hlk HM_2
    refine tkK hK (HK.out _ ud2) fun hHeld=>?_
    clear hK K
    refine tkY 4 hHeld ?_
    refine tkY 5 hHeld ?_
    refine tkY 6 hHeld ?_
    refine tk1 8 fun K hK=>?_
    rw [if_pos (by rfl)];refine wp_store_row 99 _ _ rfl gC #[.bool false,.func (.func f1) #[] #[],.func (.func f2) #[] #[],.func (.func f3) #[] #[]] rfl rfl _ _ fC_2.out HCI.out rfl (by simp [Value.oneCell']) ?_;obtain ⟨wv3,hwx⟩:∃ W':World,W'=wv2.setRow gC #[.bool false,.func (.func f1) #[] #[],.func (.func f2) #[] #[],.func (.func f3) #[] #[]]:=⟨_,rfl⟩;have fC_3:Hid (wv3.heap[gC]? =some (.cells #[.bool false,.func (.func f1) #[] #[],.func (.func f2) #[] #[],.func (.func f3) #[] #[]] 99 (0,0))):=(by show _=_;rw [hwx];exact setRow_heap _ _ _ _ _ _ fC_2.out);have ud3:=ud2.setRowNew bC #[.bool false,.func (.func f1) #[] #[],.func (.func f2) #[] #[],.func (.func f3) #[] #[]];rw [← hwx] at ud3 ⊢;clear hwx
    refine tkK hK (HK.out _ ud3) fun hHeld=>?_
    clear hK K
    refine tkY 9 hHeld ?_
    refine wpAnyH_done (by kernel_rfl) ?_ _
    refine NoPanic.normal ?_
    exact hJ bM gC wv3 fC_3 (Lib.hid ud3)
  refine tkZ fun K hK=>?_
  go_simp;obtain ⟨gC,wv1,hgx,hwx,fC_1,hq⟩:=alloc_letD w1 (.cells #[.bool false,.nilFunc,.nilFunc,.nilFunc] 99);rw [← hgx,← hwx];have bC:w1.heap.size≤gC:=(by omega);have ud1:=hq;clear hgx hwx hq
  refine tkK hK (HK.out _ ud1) fun hHeld=>?_
  clear hK K
  refine tk1 0 fun K hK=>?_
  go_simp;refine (courts_any _).mono ?_;rintro e wv2 ⟨bM,rfl,HMF,hq⟩;have ud2:=ud1.trans hq;have fC_2:=Lib.hid (row_updH fC_1.out hq);clear hq;have HM_2:=HMF;clear HMF;go_wp2_with fail
  refine tkK hK (HK.out _ ud2) fun hHeld=>?_
  clear hK K
  refine tk1 3 fun K hK=>?_
  have hlk:=(HM_2.out.look_ok (x:=kind) undC (zeroC wv2) HKB.out).trans (congrArg (fun z=>Result.ok z wv2) (show _=Value.tuple #[.agg #[.bool false,.func (.func f1) #[] #[],.func (.func f2) #[] #[],.func (.func f3) #[] #[]],.bool true] from (by rw [HKK.out];rfl)));go_wp2_with fail;clear hlk HM_2
  refine tkK hK (HK.out _ ud2) fun hHeld=>?_
  clear hK K
  refine tkY 4 hHeld ?_
  refine tkY 5 hHeld ?_
  refine tkY 6 hHeld ?_
  refine tk1 8 fun K hK=>?_
  rw [if_pos (by rfl)];refine wp_store_row 99 _ _ rfl gC #[.bool false,.func (.func f1) #[] #[],.func (.func f2) #[] #[],.func (.func f3) #[] #[]] rfl rfl _ _ fC_2.out HCI.out rfl (by simp [Value.oneCell']) ?_;obtain ⟨wv3,hwx⟩:∃ W':World,W'=wv2.setRow gC #[.bool false,.func (.func f1) #[] #[],.func (.func f2) #[] #[],.func (.func f3) #[] #[]]:=⟨_,rfl⟩;have fC_3:Hid (wv3.heap[gC]? =some (.cells #[.bool false,.func (.func f1) #[] #[],.func (.func f2) #[] #[],.func (.func f3) #[] #[]] 99 (0,0))):=(by show _=_;rw [hwx];exact setRow_heap _ _ _ _ _ _ fC_2.out);have ud3:=ud2.setRowNew bC #[.bool false,.func (.func f1) #[] #[],.func (.func f2) #[] #[],.func (.func f3) #[] #[]];rw [← hwx] at ud3 ⊢;clear hwx
  refine tkK hK (HK.out _ ud3) fun hHeld=>?_
  clear hK K
  refine tkY 9 hHeld ?_
  refine wpAnyH_done (by kernel_rfl) ?_ _
  refine NoPanic.normal ?_
  exact hJ bM gC wv3 fC_3 (Lib.hid ud3)
 intro bM gC w3 fC U3
 skip
 have HSL:Hid (∀ W,Upd [] [] w1 W→W.cell? ⟨gS,0,none⟩=some (.slice (some ⟨gM,0,none⟩) mn mc)):=fun W u=>cell_of_row _ gS 0 _ _ _ (row_updH HS.out u)
 have ck':=cell_of_row _ gC 0 _ _ _ fC.out
 have cl:=HSL.out w3 U3.out
 have cl0:w3.cell? ⟨gS,0,none⟩=some (.slice (some ⟨gM,0,none⟩) mn mc):=cell_of_row _ gS 0 _ _ _ (row_updH HS.out U3.out)
 have HIX:=Lib.hid (idxG_any who l (some ⟨gM,0,none⟩) mn mc gE w3 HL.out hlc hlm (HM.out.upd U3.out) (cell_of_row _ gE 1 _ _ _ (row_updH HE.out U3.out)))
 go_wp2_with fail
 refine HIX.out.mono ?_
 rintro e w4 ⟨rfl,hq⟩
 rw [HI.out.1,show idxV (some i)=(i:Int) from rfl]
 have U4:=Lib.hid (U3.out.trans hq)
 have fC4:=Lib.hid (row_updH fC.out hq)
 obtain ⟨gM',hgM',hgM,HMc⟩:=(HM.out.upd U4.out).row HI.out.2
 obtain rfl:gM=gM':=by injection hgM' with h;injection h
 have hi64:i<l.length:=(List.getElem?_eq_some_iff.1 HI.out.2).1
 have i0:(0:Int)≤(i:Int):=by omega
 have i1:(i:Int)<(mn:Int):=by have:=HL.out;omega
 have HKB:Hid (∀ W,Upd [] [] w4 W→(Instr.loadAt 30 (.pointer (some ⟨gS,0,none⟩))).run Tryz.prog W=.ok (.agg #[.slice (some ⟨gM,0,none⟩) mn mc,.slice ca cn cc,.slice pa pn pc,.slice ka kn kc,.int .i64 sq,.int .i64 dep]) W∧(Instr.loadAt 48 (.pointer (some ⟨gE,0,none⟩))).run Tryz.prog W=.ok (.agg #[.int .i64 kind,.int .i64 who,.int .i64 aw,.string aT,.int .i64 ar,.int .i64 as',.int .i64 bw,.string bT,.int .i64 br,.int .i64 bs',.int .i64 low,.int .i64 high,.string F,.string A,.string B,.int .i64 ci,.int .i64 ck,.int .i64 c1,.int .i64 c2]) W∧(Instr.loadAt 52 (.pointer (some ⟨gM,i * 3,none⟩))).run Tryz.prog W=.ok (.agg #[.int .i64 who,.int .i64 wt,.int .i64 pub]) W):=by
  intro W u
  have q:=U4.out.trans u
  exact ⟨sup_load (l:=([.slice (some ⟨gM,0,none⟩) mn mc,.slice ca cn cc,.slice pa pn pc,.slice ka kn kc,.int .i64 sq,.int .i64 dep]:List Value)) rfl (row_updH HS.out q),evG_load (row_updH HE.out q),HMc W u⟩
 have ue0:Upd [] [] w4 w4.drew:=(Upd.refl _ _).drew
 have HMI:Hid ((Tryz.prog.info? 106).map (·.size)=some (#[.slice (some ⟨gM,0,none⟩) mn mc,.slice ca cn cc,.slice pa pn pc,.slice ka kn kc,.int .i64 sq,.int .i64 dep,.int .i64 kind,.int .i64 who,.int .i64 aw,.string aT,.int .i64 ar,.int .i64 as',.int .i64 bw,.string bT,.int .i64 br,.int .i64 bs',.int .i64 low,.int .i64 high,.string F,.string A,.string B,.int .i64 ci,.int .i64 ck,.int .i64 c1,.int .i64 c2,.int .i64 (i:Int),.int .i64 who,.int .i64 wt,.int .i64 pub]:Array Value).size):=mtInfo rfl
 have HMO:Hid ((#[.slice (some ⟨gM,0,none⟩) mn mc,.slice ca cn cc,.slice pa pn pc,.slice ka kn kc,.int .i64 sq,.int .i64 dep,.int .i64 kind,.int .i64 who,.int .i64 aw,.string aT,.int .i64 ar,.int .i64 as',.int .i64 bw,.string bT,.int .i64 br,.int .i64 bs',.int .i64 low,.int .i64 high,.string F,.string A,.string B,.int .i64 ci,.int .i64 ck,.int .i64 c1,.int .i64 c2,.int .i64 (i:Int),.int .i64 who,.int .i64 wt,.int .i64 pub]:Array Value).all (·.oneCell')=true):=by show _=_;simp [Value.oneCell']
 clear hq HIX HSL ck' cl cl0 fC U3
 go_upto_region 10 with (fail)
 refine @_root_.id ((∀ (gT:Nat) (W:World),Hid (W.heap[gT]? =some (.cells #[.slice (some ⟨gM,0,none⟩) mn mc,.slice ca cn cc,.slice pa pn pc,.slice ka kn kc,.int .i64 sq,.int .i64 dep,.int .i64 kind,.int .i64 who,.int .i64 aw,.string aT,.int .i64 ar,.int .i64 as',.int .i64 bw,.string bT,.int .i64 br,.int .i64 bs',.int .i64 low,.int .i64 high,.string F,.string A,.string B,.int .i64 ci,.int .i64 ck,.int .i64 c1,.int .i64 c2,.int .i64 (i:Int),.int .i64 who,.int .i64 wt,.int .i64 pub] 106 (0,0)))→Hid (Upd [] [] w4 W)→(?pj16:Nat→World→Prop) gT W)→_) (fun hJ=>?mj16) ?jj16
 case mj16 =>
  refine wp_region_noPanic ?_
  refine wp_region_held_drew (S:=fun wp=>(Instr.loadAt 30 (.pointer (some ⟨gS,0,none⟩))).run Tryz.prog wp=.ok (.agg #[.slice (some ⟨gM,0,none⟩) mn mc,.slice ca cn cc,.slice pa pn pc,.slice ka kn kc,.int .i64 sq,.int .i64 dep]) wp∧(Instr.loadAt 48 (.pointer (some ⟨gE,0,none⟩))).run Tryz.prog wp=.ok (.agg #[.int .i64 kind,.int .i64 who,.int .i64 aw,.string aT,.int .i64 ar,.int .i64 as',.int .i64 bw,.string bT,.int .i64 br,.int .i64 bs',.int .i64 low,.int .i64 high,.string F,.string A,.string B,.int .i64 ci,.int .i64 ck,.int .i64 c1,.int .i64 c2]) wp∧(Instr.loadAt 52 (.pointer (some ⟨gM,i * 3,none⟩))).run Tryz.prog wp=.ok (.agg #[.int .i64 who,.int .i64 wt,.int .i64 pub]) wp) (by kernel_rfl) ?_ (fun hHeld=>?_)
  · exact HKB.out _ ue0
  refine wpAnyH_take (i:=0) (v:=.agg (#[.slice (some ⟨gM,0,none⟩) mn mc,.slice ca cn cc,.slice pa pn pc,.slice ka kn kc,.int .i64 sq,.int .i64 dep]:Array Value)) (by simp only [List.getElem?_toArray,List.getElem?_cons_zero] <;> rfl) (by kernel_rfl) (by kernel_rfl) (by kernel_rfl) (fun _ _ _ h=>h) (yieldsIf_loadW (by rfl) _ _ rfl _ rfl (#[.slice (some ⟨gM,0,none⟩) mn mc,.slice ca cn cc,.slice pa pn pc,.slice ka kn kc,.int .i64 sq,.int .i64 dep]:Array Value) (fun w hSw=>hSw.1)) hHeld ?_
  try simp only [Act.put,List.setIfInBounds_toArray,List.set_cons_zero,List.set_cons_succ]
  refine wpAnyH_take (i:=1) (v:=.agg (#[.int .i64 kind,.int .i64 who,.int .i64 aw,.string aT,.int .i64 ar,.int .i64 as',.int .i64 bw,.string bT,.int .i64 br,.int .i64 bs',.int .i64 low,.int .i64 high,.string F,.string A,.string B,.int .i64 ci,.int .i64 ck,.int .i64 c1,.int .i64 c2]:Array Value)) (by simp only [List.getElem?_toArray,List.getElem?_cons_succ,List.getElem?_cons_zero] <;> rfl) (by kernel_rfl) (by kernel_rfl) (by kernel_rfl) (fun _ _ _ h=>h) (yieldsIf_loadW (by rfl) _ _ rfl _ rfl (#[.int .i64 kind,.int .i64 who,.int .i64 aw,.string aT,.int .i64 ar,.int .i64 as',.int .i64 bw,.string bT,.int .i64 br,.int .i64 bs',.int .i64 low,.int .i64 high,.string F,.string A,.string B,.int .i64 ci,.int .i64 ck,.int .i64 c1,.int .i64 c2]:Array Value) (fun w hSw=>hSw.2.1)) hHeld ?_
  try simp only [Act.put,List.setIfInBounds_toArray,List.set_cons_zero,List.set_cons_succ]
  refine tkY 2 hHeld ?_
  refine tkY 3 hHeld ?_
  refine tkY 4 hHeld ?_
  refine tkY 5 hHeld ?_
  refine wpAnyH_take (i:=6) (v:=.agg (#[.int .i64 who,.int .i64 wt,.int .i64 pub]:Array Value)) (by simp only [List.getElem?_toArray,List.getElem?_cons_succ,List.getElem?_cons_zero] <;> rfl) (by kernel_rfl) (by kernel_rfl) (by kernel_rfl) (fun _ _ _ h=>h) (yieldsIf_loadW (by rfl) _ _ rfl _ rfl (#[.int .i64 who,.int .i64 wt,.int .i64 pub]:Array Value) (fun w hSw=>hSw.2.2)) hHeld ?_
  try simp only [Act.put,List.setIfInBounds_toArray,List.set_cons_zero,List.set_cons_succ]
  refine tkY 7 hHeld ?_
  refine tk1 8 fun K hK=>?_
  go_simp;obtain ⟨gT,wx1,hgx,hwx,fT_1,hq⟩:=alloc_letD w4 (.cells #[.slice none 0 0,.slice none 0 0,.slice none 0 0,.slice none 0 0,.int .i64 0,.int .i64 0,.int .i64 0,.int .i64 0,.int .i64 0,.string ⟨#[]⟩,.int .i64 0,.int .i64 0,.int .i64 0,.string ⟨#[]⟩,.int .i64 0,.int .i64 0,.int .i64 0,.int .i64 0,.string ⟨#[]⟩,.string ⟨#[]⟩,.string ⟨#[]⟩,.int .i64 0,.int .i64 0,.int .i64 0,.int .i64 0,.int .i64 0,.int .i64 0,.int .i64 0,.int .i64 0] 106);rw [← hgx,← hwx];have bT':w4.heap.size≤gT:=(by omega);have ue1:=hq;clear hgx hwx hq
  refine tkK hK (HKB.out _ ue1) fun hHeld=>?_
  clear hK K
  refine tk1 9 fun K hK=>?_
  rw [if_pos (by rfl)];refine wp_store_row 106 _ _ rfl gT #[.slice (some ⟨gM,0,none⟩) mn mc,.slice ca cn cc,.slice pa pn pc,.slice ka kn kc,.int .i64 sq,.int .i64 dep,.int .i64 kind,.int .i64 who,.int .i64 aw,.string aT,.int .i64 ar,.int .i64 as',.int .i64 bw,.string bT,.int .i64 br,.int .i64 bs',.int .i64 low,.int .i64 high,.string F,.string A,.string B,.int .i64 ci,.int .i64 ck,.int .i64 c1,.int .i64 c2,.int .i64 (i:Int),.int .i64 who,.int .i64 wt,.int .i64 pub] rfl rfl _ _ fT_1.out HMI.out rfl HMO.out ?_;obtain ⟨wx2,hwx⟩:∃ W':World,W'=wx1.setRow gT #[.slice (some ⟨gM,0,none⟩) mn mc,.slice ca cn cc,.slice pa pn pc,.slice ka kn kc,.int .i64 sq,.int .i64 dep,.int .i64 kind,.int .i64 who,.int .i64 aw,.string aT,.int .i64 ar,.int .i64 as',.int .i64 bw,.string bT,.int .i64 br,.int .i64 bs',.int .i64 low,.int .i64 high,.string F,.string A,.string B,.int .i64 ci,.int .i64 ck,.int .i64 c1,.int .i64 c2,.int .i64 (i:Int),.int .i64 who,.int .i64 wt,.int .i64 pub]:=⟨_,rfl⟩;have fT_2:Hid (wx2.heap[gT]? =some (.cells #[.slice (some ⟨gM,0,none⟩) mn mc,.slice ca cn cc,.slice pa pn pc,.slice ka kn kc,.int .i64 sq,.int .i64 dep,.int .i64 kind,.int .i64 who,.int .i64 aw,.string aT,.int .i64 ar,.int .i64 as',.int .i64 bw,.string bT,.int .i64 br,.int .i64 bs',.int .i64 low,.int .i64 high,.string F,.string A,.string B,.int .i64 ci,.int .i64 ck,.int .i64 c1,.int .i64 c2,.int .i64 (i:Int),.int .i64 who,.int .i64 wt,.int .i64 pub] 106 (0,0))):=(by show _=_;rw [hwx];exact setRow_heap _ _ _ _ _ _ fT_1.out);have ue2:=ue1.setRowNew bT' #[.slice (some ⟨gM,0,none⟩) mn mc,.slice ca cn cc,.slice pa pn pc,.slice ka kn kc,.int .i64 sq,.int .i64 dep,.int .i64 kind,.int .i64 who,.int .i64 aw,.string aT,.int .i64 ar,.int .i64 as',.int .i64 bw,.string bT,.int .i64 br,.int .i64 bs',.int .i64 low,.int .i64 high,.string F,.string A,.string B,.int .i64 ci,.int .i64 ck,.int .i64 c1,.int .i64 c2,.int .i64 (i:Int),.int .i64 who,.int .i64 wt,.int .i64 pub];rw [← hwx] at ue2 ⊢;clear hwx
  refine tkK hK (HKB.out _ ue2) fun hHeld=>?_
  clear hK K
  refine wpAnyH_done (by kernel_rfl) ?_ _
  refine NoPanic.normal ?_
  exact hJ gT wx2 fT_2 (Lib.hid ue2)
 intro gT w5 fT V5
 skip
 have U5:=Lib.hid (U4.out.trans V5.out)
 have V0:=Lib.hid (show Upd [] [] w w5 from U1.out.trans U5.out)
 have HCC:Hid (∀ W,Upd [] [] w5 W→W.cell? ⟨gC,1,none⟩=some (.func (.func f1) #[] #[])∧W.cell? ⟨gC,2,none⟩=some (.func (.func f2) #[] #[])∧W.cell? ⟨gC,3,none⟩=some (.func (.func f3) #[] #[])∧W.cell? ⟨gE,1,none⟩=some (.int .i64 who)):=by
  intro W u
  have q:=row_updH (row_updH fC4.out V5.out) u
  exact ⟨cell_of_row _ gC 1 _ _ _ q,cell_of_row _ gC 2 _ _ _ q,cell_of_row _ gC 3 _ _ _ q,cell_of_row _ gE 1 _ _ _ (row_updH HE.out (U5.out.trans u))⟩
 obtain ⟨MT,hMT⟩:∃ MT,MT=(mtG (some ⟨gM,0,none⟩) mn mc ca cn cc pa pn pc ka kn kc sq dep kind who aw aT ar as' bw bT br bs' low high F A B ci ck c1 c2 (i:Int) who wt pub):=⟨_,rfl⟩
 have hMT2:#[.slice (some ⟨gM,0,none⟩) mn mc,.slice ca cn cc,.slice pa pn pc,.slice ka kn kc,.int .i64 sq,.int .i64 dep,.int .i64 kind,.int .i64 who,.int .i64 aw,.string aT,.int .i64 ar,.int .i64 as',.int .i64 bw,.string bT,.int .i64 br,.int .i64 bs',.int .i64 low,.int .i64 high,.string F,.string A,.string B,.int .i64 ci,.int .i64 ck,.int .i64 c1,.int .i64 c2,.int .i64 (i:Int),.int .i64 who,.int .i64 wt,.int .i64 pub]=MT:=hMT.symm
 rw [hMT2] at fT HMI
 rw [← hMT] at HF HG HP
 obtain ⟨x1,x2,x3,x4⟩:=HCC.out w5 (Upd.refl _ _)
 clear hMT hMT2 HMO HKB ue0 HS HE HM fC4 U4 V5 U5 HMc
 go_wp2_with (first | (refine wpList_load_row rfl 106 _ rfl gT rfl _ MT _ _ fT.out Tryz.underlying106 rfl HMI.out ?_))
 rw [HB1'.out]
 simp only [Oper.upon]
 refine (HF.out w5 V0.out).mono ?_
 rintro e w6 ⟨b1,HB1,rfl,hq⟩
 have V6:=Lib.hid (V0.out.trans hq)
 have X6:=Lib.hid hq
 have fT6:=Lib.hid (row_updH fT.out hq)
 obtain ⟨x1,x2,x3,x4⟩:=HCC.out w6 hq
 clear hq HF fT V0
 cases b1 with
 | false =>
  go_wp2_with fail
  go_ret2
  exact ⟨0,_,.inl ⟨HB1.out,rfl,rfl⟩,rfl,V6.out⟩
 | true =>
  go_wp2_with (first | (refine wpList_load_row rfl 106 _ rfl gT rfl _ MT _ _ fT6.out Tryz.underlying106 rfl HMI.out ?_))
  rw [HB2'.out]
  simp only [Oper.upon]
  refine (HG.out HB1.out w6 V6.out).mono ?_
  rintro e w7 ⟨b2,HB2,rfl,hq⟩
  have V7:=Lib.hid (V6.out.trans hq)
  have X7:=Lib.hid (X6.out.trans hq)
  have fT7:=Lib.hid (row_updH fT6.out hq)
  obtain ⟨x1,x2,x3,x4⟩:=HCC.out w7 X7.out
  clear hq HG fT6 V6 X6
  cases b2 with
  | false =>
   go_wp2_with fail
   go_ret2
   exact ⟨0,_,.inr (.inl ⟨HB1.out,HB2.out,rfl,rfl⟩),rfl,V7.out⟩
  | true =>
   go_wp2_with (first | (refine wpList_load_row rfl 106 _ rfl gT rfl _ MT _ _ fT7.out Tryz.underlying106 rfl HMI.out ?_))
   rw [HB3'.out]
   simp only [Oper.upon]
   refine (HP.out HB1.out HB2.out w7 V7.out).mono ?_
   rintro e w8 ⟨b3,HB3,rfl,hq⟩
   have V8:=Lib.hid (V7.out.trans hq)
   obtain ⟨x1,x2,x3,x4⟩:=HCC.out w8 (X7.out.trans hq)
   clear hq HP fT7 V7 X7
   cases b3 with
   | false =>
    go_wp2_with fail
    go_ret2
    exact ⟨0,_,.inr (.inr (.inl ⟨HB1.out,HB2.out,HB3.out,rfl,rfl⟩)),rfl,V8.out⟩
   | true =>
    go_wp2_with fail
    go_ret2
    exact ⟨who,0,.inr (.inr (.inr ⟨HB1.out,HB2.out,HB3.out,rfl,rfl⟩)),rfl,V8.out⟩
end Go.Proofs.YtmjlkkbbnkanpaaGreatDoor
