/- sortesref08.Text at numbers from 0 on: sortesref01.Gcd, sortesref02.Right, value, Of, Text and what follows. -/
import Derived.Test.YtmjlkkbbnkanpaaGreatDoorHAA
import Derived.Test.YtmjlkkbbnkanpaaGreatDoorHAP
import Derived.Test.YtmjlkkbbnkanpaaGreatDoorHAH
import Derived.Test.YtmjlkkbbnkanpaaGreatDoorHAK
import Derived.Test.YtmjlkkbbnkanpaaGreatDoorHAI
import Derived.Test.YtmjlkkbbnkanpaaGreatDoorHAM
import Derived.Test.YtmjlkkbbnkanpaaGreatDoorHAS
import Derived.Test.YtmjlkkbbnkanpaaGreatDoorHAG
import Derived.Test.YtmjlkkbbnkanpaaGreatDoorHAL
import Derived.Test.YtmjlkkbbnkanpaaGreatDoorHAN
import Derived.Test.YtmjlkkbbnkanpaaGreatDoorHAE
import Derived.Test.YtmjlkkbbnkanpaaGreatDoorHAF
namespace Go.Proofs.YtmjlkkbbnkanpaaGreatDoor
open Go.RowKit
set_option maxRecDepth 100000
theorem ba_of_bs {p:ByteArray} {l:List UInt8} (h:bs p=l):p=⟨l.toArray⟩:=by
 cases p with
 | mk d =>
  simp only [bs] at h
  subst h
  simp
theorem be_sm8 {n:Nat} (h:n<9223372036854775808):(be n).length≤8:=be_len_le 8 n (Nat.lt_trans h (by decide))
theorem one_is {p:ByteArray} (h:bs p=be 1):p=⟨#[1]⟩:=ba_of_bs (h.trans be_one)
theorem nil_is {p:ByteArray} (h:bs p=be 0):p=⟨#[]⟩:=ba_of_bs (h.trans be_zero)
theorem canon_is (a:ByteArray) (n:Nat) (w:World) (ha:bs a=be n) (hl:(be n).length≤1000000):Calls Tryz.prog 68 #[.string a] w (RetNat n w):=by
 have h:=canon_any a w (by rw [size_of_be ha];omega)
 rw [ha,natB_be] at h
 exact h
theorem cmp_ones (w:World):Calls Tryz.prog 25 #[.string ⟨#[1]⟩,.string ⟨#[1]⟩] w (Ret (.int .i64 0) w):=by
 have HC:=Lib.hid (fun W=>canon_is ⟨#[1]⟩ 1 W be_one.symm (by rw [be_one];decide))
 go_enter Tryz.func25,Tryz.ntmps25
 go_wp2_with fail
 refine (HC.out w).mono ?_
 rintro e w' ⟨p,HP,rfl,rfl⟩
 obtain rfl:=one_is HP.out
 clear HP
 go_wp2_with fail
 refine (HC.out w).mono ?_
 rintro e w' ⟨p,HP,rfl,rfl⟩
 obtain rfl:=one_is HP.out
 clear HP
 go_wp2_with fail
 go_ret
 exact ⟨rfl,rfl⟩
set_option maxHeartbeats 1000000 in
theorem gcd_one (a:ByteArray) (n:Nat) (w:World) (ha:bs a=be n) (hn:n<9223372036854775808):Calls Tryz.prog 269 #[.string a,.string ⟨#[1]⟩] w (MkNat 1 w):=by
 have HC:=Lib.hid (fun W=>canon_is ⟨#[1]⟩ 1 W be_one.symm (by rw [be_one];decide))
 have HA:=Lib.hid (fun W=>canon_is a n W ha (by have:=be_sm8 hn;omega))
 have HL:=Lib.hid (be_sm8 hn)
 clear ha hn
 go_enter Tryz.func269,Tryz.ntmps269
 go_wp2_with fail
 refine (HA.out w).mono ?_
 rintro e w' ⟨p,HP,rfl,rfl⟩
 go_wp2_with fail
 refine (HC.out w).mono ?_
 rintro e w' ⟨q,HQ,rfl,rfl⟩
 obtain rfl:=one_is HQ.out
 clear HQ
 go_wp2_with fail
 refine wp_loop_rounds 2 ?_
 rw [rounds_succ]
 go_wp2_with fail
 refine (quo_any p ⟨#[1]⟩ n 1 w HP.out be_one.symm (by omega) (by have:=HL.out;omega) (by rw [be_one];decide)).mono ?_
 rintro e w2 ⟨b1,b2,HB1,HB2,rfl,hu2⟩
 rw [Nat.mod_one] at HB2
 obtain rfl:=nil_is HB2.out
 have HU:=Lib.hid hu2
 clear HB1 HB2 HP hu2 HA HC
 go_wp2_with fail
 rw [rounds_succ]
 go_wp2_with fail
 go_ret
 exact ⟨_,by show _=_;exact be_one.symm,rfl,HU.out⟩
theorem be_head:∀ (n:Nat),0<n→∃ c r,be n=c :: r∧c≠0
 | n,h=>by
  rw [be_pos h]
  by_cases h0:n / 256=0
  · rw [h0,be_zero]
    refine ⟨_,[],rfl,fun hc=>?_⟩
    have h1:=congrArg UInt8.toNat hc
    rw [UInt8.toNat_ofNat'] at h1
    have h2:(0:UInt8).toNat=0:=rfl
    rw [h2] at h1
    omega
  · obtain ⟨c,r,e,hc⟩:=be_head (n / 256) (by omega)
    rw [e]
    exact ⟨c,r ++ [_],rfl,hc⟩
 termination_by n=>n
 decreasing_by omega
theorem right01_any (a:ByteArray) (n:Nat) (w:World) (ha:bs a=be n):Calls Tryz.prog 268 #[.string a] w (Ret (.bool true) w):=by
 by_cases h0:n=0
 · subst h0
   obtain rfl:=nil_is ha
   go_enter Tryz.func268,Tryz.ntmps268
   go_wp2_with fail
   go_ret
   exact ⟨rfl,rfl⟩
 · have hs:0<a.size:=by rw [size_of_be ha];exact be_ne (by omega)
   have hs2:((a.size:Int) == 0)=false:=by rw [beq_eq_false_iff_ne];omega
   have hz:((a[0].toNat:Int) == 0)=false:=by
    rw [beq_eq_false_iff_ne]
    intro h
    obtain ⟨c,r,e,hc⟩:=be_head n (by omega)
    have h3:=bs_cons' a hs
    rw [ha,e] at h3
    injection h3 with h4 _
    exact hc (h4.trans (u8_zero h))
   have hz2:((a[0].toNat:Int) != 0)=true:=by rw [bne,hz];rfl
   clear ha h0
   go_enter Tryz.func268,Tryz.ntmps268
   go_wp2_with fail
   go_ret
   exact ⟨rfl,rfl⟩
theorem of_one (w:World):Calls Tryz.prog 24 #[.int .i64 1] w (Mk (.string ⟨#[1]⟩) w):=by
 refine (of_int 1 w (by omega)).mono ?_
 rintro e w1 ⟨r,HR,rfl,hu⟩
 obtain rfl:=one_is HR.out
 exact ⟨rfl,hu⟩
def ratV (N:ByteArray):Array Value:=#[.bool false,.string N,.string ⟨#[1]⟩]
set_option maxHeartbeats 1000000 in
theorem right02_any (N:ByteArray) (n:Nat) (w:World) (hN:bs N=be n) (hn:n<9223372036854775808):Calls Tryz.prog 224 #[.agg (ratV N)] w (Mk (.bool true) w):=by
 obtain ⟨g,hg⟩:∃ g,w.heap.size=g:=⟨_,rfl⟩
 obtain ⟨w0,hw0⟩:∃ W,w.alloc (.cells (ratV N) 165)=W:=⟨_,rfl⟩
 have r0:w0.heap[g]? =some (.cells (ratV N) 165 (0,0)):=by rw [← hg,← hw0];exact heap_alloc_new _ _
 have u0:Upd [] [] w w0:=by rw [← hw0];exact (Upd.refl _ _).alloc _
 have U0:=Lib.hid u0
 have HK:Hid (∀ W,Upd [] [] w0 W→W.cell? ⟨g,0,none⟩=some (.bool false)∧W.cell? ⟨g,1,none⟩=some (.string N)∧W.cell? ⟨g,2,none⟩=some (.string ⟨#[1]⟩)):=by
  intro W u
  have q:=row_updH r0 u
  exact ⟨cell_of_row _ g 0 _ _ _ q,cell_of_row _ g 1 _ _ _ q,cell_of_row _ g 2 _ _ _ q⟩
 have ud0:Upd [] [] w0 w0.drew:=(Upd.refl _ _).drew
 have HR1:=Lib.hid (right01_any N n w0 hN)
 have HR2:=Lib.hid (right01_any ⟨#[1]⟩ 1 w0 be_one.symm)
 obtain ⟨c0,c1,c2⟩:=HK.out w0 (Upd.refl _ _)
 clear r0 u0
 by_cases h0:n=0
 · subst h0
   obtain rfl:=nil_is hN
   clear hN hn
   go_enter Tryz.func224,Tryz.ntmps224
   go_wp2_with fail
   refine HR1.out.mono ?_
   rintro e w' ⟨rfl,rfl⟩
   go_wp2_with fail
   refine HR2.out.mono ?_
   rintro e w' ⟨rfl,rfl⟩
   go_upto_region 6 with (fail)
   refine wp_region_noPanic ?_
   refine wp_region_held_drew (S:=fun wp=>wp.cell? ⟨g,0,none⟩=some (.bool false)∧wp.cell? ⟨g,2,none⟩=some (.string ⟨#[1]⟩)) (by kernel_rfl) ?_ (fun hHeld=>?_)
   · exact ⟨(HK.out _ ud0).1,(HK.out _ ud0).2.2⟩
   refine tkY 0 hHeld ?_
   refine tkY 1 hHeld ?_
   refine tkY 2 hHeld ?_
   refine tkY 3 hHeld ?_
   refine tkY 4 hHeld ?_
   refine tkY 5 hHeld ?_
   refine tk1 6 fun K hK=>?_
   rw [if_pos (by rfl)];go_simp;refine (of_one _).mono ?_;rintro e wv1 ⟨rfl,hq⟩;have ud1:=ud0.trans hq;clear hq;go_wp2_with fail
   refine tkK hK (⟨(HK.out _ ud1).1,(HK.out _ ud1).2.2⟩) fun hHeld=>?_
   clear hK K
   refine tk1 7 fun K hK=>?_
   rw [if_pos (by rfl)];go_simp;refine (cmp_ones _).mono ?_;rintro e wv2 ⟨rfl,rfl⟩;go_wp2_with fail
   refine tkK hK (⟨(HK.out _ ud1).1,(HK.out _ ud1).2.2⟩) fun hHeld=>?_
   clear hK K
   refine tkY 8 hHeld ?_
   refine tkY 9 hHeld ?_
   refine tkY 10 hHeld ?_
   refine wpAnyH_done (by kernel_rfl) ?_ _
   refine NoPanic.normal ?_
   go_wp2_with fail
   go_ret
   exact ⟨rfl,U0.out.trans ud1⟩
 · have hs:0<N.size:=by rw [size_of_be hN];exact be_ne (by omega)
   have hne:(N.toList == [])=false:=by
    rw [beq_eq_false_iff_ne]
    intro e
    rw [ByteArray.toList_eq] at e
    have:=congrArg List.length e
    rw [show N.data.toList.length=N.size from rfl] at this
    have h3:N.size=0:=this
    omega
   have HG:=Lib.hid (fun W=>gcd_one N n W hN hn)
   clear hN hn h0
   go_enter Tryz.func224,Tryz.ntmps224
   go_wp2_with fail
   refine HR1.out.mono ?_
   rintro e w' ⟨rfl,rfl⟩
   go_wp2_with fail
   refine HR2.out.mono ?_
   rintro e w' ⟨rfl,rfl⟩
   go_wp2_with fail
   refine (HG.out w0).mono ?_
   rintro e w2 ⟨r,HR,rfl,hu⟩
   obtain rfl:=one_is HR.out
   have U2:=Lib.hid (U0.out.trans hu)
   clear HR hu HG
   go_wp2_with fail
   refine (of_one w2).mono ?_
   rintro e w3 ⟨rfl,hu⟩
   have U3:=Lib.hid (U2.out.trans hu)
   clear hu
   go_wp2_with fail
   refine (cmp_ones w3).mono ?_
   rintro e w4 ⟨rfl,rfl⟩
   go_wp2_with fail
   go_ret
   exact ⟨rfl,U3.out⟩
def ratZ:Array Value:=#[.bool false,.string ⟨#[]⟩,.string ⟨#[]⟩]
theorem ratInfo (N:ByteArray):(Tryz.prog.info? 165).map (·.size)=some (ratV N).size:=by
 show _=some 3
 kernel_rfl
theorem value02_any (N:ByteArray) (n:Nat) (w:World) (hN:bs N=be n) (hn:n<9223372036854775808):Calls Tryz.prog 173 #[.agg (ratV N)] w (Mk (.agg (ratV N)) w):=by
 have HR:=Lib.hid (fun W=>right02_any N n W hN hn)
 obtain ⟨RV,hRV⟩:∃ RV,RV=ratV N:=⟨_,rfl⟩
 have HI:Hid ((Tryz.prog.info? 165).map (·.size)=some RV.size):=by rw [hRV];exact ratInfo N
 have HZ:Hid (ratZ.size=RV.size):=by show _=_;rw [hRV];rfl
 have HO:Hid (RV.all (·.oneCell')=true):=by show _=_;rw [hRV];simp [ratV,Value.oneCell']
 rw [← hRV] at HR ⊢
 obtain ⟨g,hg⟩:∃ g,w.heap.size=g:=⟨_,rfl⟩
 obtain ⟨w0,hw0⟩:∃ W,w.alloc (.cells RV 165)=W:=⟨_,rfl⟩
 have r0:w0.heap[g]? =some (.cells RV 165 (0,0)):=by rw [← hg,← hw0];exact heap_alloc_new _ _
 have u0:Upd [] [] w w0:=by rw [← hw0];exact (Upd.refl _ _).alloc _
 obtain ⟨gR,hgR⟩:∃ g,w0.heap.size=g:=⟨_,rfl⟩
 obtain ⟨w1,hw1⟩:∃ W,w0.alloc (.cells #[.bool false,.string ⟨#[]⟩,.string ⟨#[]⟩] 165)=W:=⟨_,rfl⟩
 have s1:=Lib.hid (show w1.heap[gR]? =some (.cells ratZ 165 (0,0)) by rw [← hgR,← hw1];exact heap_alloc_new _ _)
 have u1:Upd [] [] w0 w1:=by rw [← hw1];exact (Upd.refl _ _).alloc _
 have r1:=Lib.hid (row_updH r0 u1)
 have hlt:w.heap.size≤gR:=by rw [← hgR];exact u0.size
 have HL:=Lib.hid hlt
 have U1:=Lib.hid (u0.trans u1)
 clear hN hn hRV r0 u0 u1 hlt
 go_enter Tryz.func173,Tryz.ntmps173
 go_wp2_with (refine wpList_load_row rfl 165 _ rfl g rfl _ RV _ _ r1.out Tryz.underlying165 rfl HI.out ?_)
 refine (HR.out w1).mono ?_
 rintro e w2 ⟨rfl,hq⟩
 have r2:=Lib.hid (row_updH r1.out hq)
 have s2:=Lib.hid (row_updH s1.out hq)
 have U2:=Lib.hid (U1.out.trans hq)
 clear hq r1 s1 U1 HR
 go_wp2_with (first | (refine wpList_load_row rfl 165 _ rfl g rfl _ RV _ _ r2.out Tryz.underlying165 rfl HI.out ?_) | (refine wpList_store_row rfl 165 _ _ rfl gR RV rfl rfl _ _ s2.out HI.out HZ.out HO.out ?_))
 refine bodyPost_ret (results_cell_row rfl _ _ gR _ RV _ _ rfl (setRow_heap _ _ _ _ _ _ s2.out) Tryz.underlying165 rfl HI.out) rfl ⟨rfl,U2.out.setRowNew HL.out _⟩
theorem of02_any (n:Nat) (w:World) (hn:n<9223372036854775808):Calls Tryz.prog 123 #[.int .i64 (n:Int)] w (fun e w'=>∃ N:ByteArray,Hid (bs N=be n)∧e=.returned (.agg (ratV N))∧Upd [] [] w w'):=by
 obtain ⟨gR,hgR⟩:∃ g,w.heap.size=g:=⟨_,rfl⟩
 obtain ⟨w1,hw1⟩:∃ W,w.alloc (.cells #[.bool false,.string ⟨#[]⟩,.string ⟨#[]⟩] 165)=W:=⟨_,rfl⟩
 have s1:=Lib.hid (show w1.heap[gR]? =some (.cells ratZ 165 (0,0)) by rw [← hgR,← hw1];exact heap_alloc_new _ _)
 have u1:=Lib.hid (show Upd [] [] w w1 by rw [← hw1];exact (Upd.refl _ _).alloc _)
 have HL:Hid (w.heap.size≤gR):=Nat.le_of_eq hgR
 go_enter Tryz.func123,Tryz.ntmps123
 go_wp2_with fail
 refine (of_int n w1 (by omega)).mono ?_
 rintro e w2 ⟨N,HN,rfl,hq⟩
 have s2:=Lib.hid (row_updH s1.out hq)
 have U2:=Lib.hid (u1.out.trans hq)
 clear hq
 go_wp2_with fail
 refine (of_one w2).mono ?_
 rintro e w3 ⟨rfl,hq⟩
 have s3:=Lib.hid (row_updH s2.out hq)
 have U3:=Lib.hid (U2.out.trans hq)
 obtain ⟨RV,hRV⟩:∃ RV,RV=ratV N:=⟨_,rfl⟩
 have HI:Hid ((Tryz.prog.info? 165).map (·.size)=some RV.size):=by rw [hRV];exact ratInfo N
 have HZ:Hid (ratZ.size=RV.size):=by show _=_;rw [hRV];rfl
 have HO:Hid (RV.all (·.oneCell')=true):=by show _=_;rw [hRV];simp [ratV,Value.oneCell']
 have HB:Hid (Tryz.prog.built 165 [(1,.string N),(2,.string ⟨#[1]⟩)]=some RV):=by show _=_;rw [hRV];kernel_rfl
 have HRV:=Lib.hid hRV
 clear hq hRV
 go_wp2_with (first | (refine wpList_buildTo rfl 165 _ rfl _ rfl RV (Eq.trans (congrArg (fun z=>Tryz.prog.built 165 z) (by kernel_rfl)) HB.out) ?_) | (refine wpList_store_row rfl 165 _ _ rfl gR RV rfl rfl _ _ s3.out HI.out HZ.out HO.out ?_))
 refine bodyPost_ret (results_cell_row rfl _ _ gR _ RV _ _ rfl (setRow_heap _ _ _ _ _ _ s3.out) Tryz.underlying165 rfl HI.out) rfl ⟨N,HN,by rw [HRV.out],U3.out.setRowNew HL.out _⟩
set_option maxHeartbeats 1000000 in
theorem text02_any (N:ByteArray) (n:Nat) (w:World) (hN:bs N=be n) (hn:n<9223372036854775808):Calls Tryz.prog 122 #[.agg (ratV N)] w (MkS (Lib.itoa (n:Int)) w):=by
 have HV:=Lib.hid (fun W=>value02_any N n W hN hn)
 have HTX:=Lib.hid (fun W=>text_of n W N hN hn)
 obtain ⟨RV,hRV⟩:∃ RV,RV=ratV N:=⟨_,rfl⟩
 have HI:Hid ((Tryz.prog.info? 165).map (·.size)=some RV.size):=by rw [hRV];exact ratInfo N
 have HO:Hid (RV.all (·.oneCell')=true):=by show _=_;rw [hRV];simp [ratV,Value.oneCell']
 obtain ⟨g,hg⟩:∃ g,w.heap.size=g:=⟨_,rfl⟩
 obtain ⟨w0,hw0⟩:∃ W,w.alloc (.cells RV 165)=W:=⟨_,rfl⟩
 have r0:=Lib.hid (show w0.heap[g]? =some (.cells RV 165 (0,0)) by rw [← hg,← hw0];exact heap_alloc_new _ _)
 have u0:=Lib.hid (show Upd [] [] w w0 by rw [← hw0];exact (Upd.refl _ _).alloc _)
 have HL:Hid (w.heap.size≤g):=Nat.le_of_eq hg
 have HC:Hid (∀ W:World,W.heap[g]? =some (.cells RV 165 (0,0))→W.cell? ⟨g,0,none⟩=some (.bool false)∧W.cell? ⟨g,1,none⟩=some (.string N)∧W.cell? ⟨g,2,none⟩=some (.string ⟨#[1]⟩)):=by
  intro W q
  rw [hRV] at q
  exact ⟨cell_of_row _ g 0 _ _ _ q,cell_of_row _ g 1 _ _ _ q,cell_of_row _ g 2 _ _ _ q⟩
 rw [← hRV] at HV ⊢
 clear hN hn hRV
 go_enter Tryz.func122,Tryz.ntmps122
 go_wp2_with (refine wpList_load_row rfl 165 _ rfl g rfl _ RV _ _ r0.out Tryz.underlying165 rfl HI.out ?_)
 refine (HV.out w0).mono ?_
 rintro e w1 ⟨rfl,hq⟩
 have r1:=Lib.hid (row_updH r0.out hq)
 have U1:=Lib.hid (u0.out.trans hq)
 obtain ⟨w2,hw2⟩:∃ W,w1.setRow g RV=W:=⟨_,rfl⟩
 have r2:=Lib.hid (show w2.heap[g]? =some (.cells RV 165 (0,0)) by rw [← hw2];exact setRow_heap _ _ _ _ _ _ r1.out)
 have U2:=Lib.hid (show Upd [] [] w w2 by rw [← hw2];exact U1.out.setRowNew HL.out _)
 have HW2:=Lib.hid hw2
 obtain ⟨c0,c1,c2⟩:=HC.out w2 r2.out
 clear hq r0 u0 U1 HV hw2
 go_wp2_with (first | (refine wpList_store_rowAs rfl 165 _ _ rfl g RV rfl rfl _ _ r1.out HI.out rfl HO.out w2 HW2.out ?_))
 refine (HTX.out w2).mono ?_
 rintro e w3 ⟨y,HY,hy,rfl,hq⟩
 have r3:=Lib.hid (row_updH r2.out hq)
 have U3:=Lib.hid (U2.out.trans hq)
 have HK:Hid (∀ W,Upd [] [] w3 W→W.cell? ⟨g,2,none⟩=some (.string ⟨#[1]⟩)):=fun W u=>(HC.out W (row_updH r3.out u)).2.2
 obtain ⟨c0,c1,c2⟩:=HC.out w3 r3.out
 have ud0:Upd [] [] w3 w3.drew:=(Upd.refl _ _).drew
 clear hq r1 r2 HTX HC
 go_upto_region 5 with (fail)
 refine wp_region_noPanic ?_
 refine wp_region_held_drew (S:=fun wp=>wp.cell? ⟨g,2,none⟩=some (.string ⟨#[1]⟩)) (by kernel_rfl) ?_ (fun hHeld=>?_)
 · exact HK.out _ ud0
 refine tkY 0 hHeld ?_
 refine tkY 1 hHeld ?_
 refine tk1 2 fun K hK=>?_
 go_simp;refine (of_one _).mono ?_;rintro e wv1 ⟨rfl,hq⟩;have ud1:=ud0.trans hq;clear hq;go_wp2_with fail
 refine tkK hK (HK.out _ ud1) fun hHeld=>?_
 clear hK K
 refine tk1 3 fun K hK=>?_
 go_simp;refine (cmp_ones _).mono ?_;rintro e wv2 ⟨rfl,rfl⟩;go_wp2_with fail
 refine tkK hK (HK.out _ ud1) fun hHeld=>?_
 clear hK K
 refine tkY 4 hHeld ?_
 refine wpAnyH_done (by kernel_rfl) ?_ _
 refine NoPanic.normal ?_
 go_wp2_with fail
 go_ret
 refine ⟨y,?_,?_,rfl,U3.out.trans ud1⟩
 · show _=_
   rw [HY.out];exact (itoa_of_nat n).symm
 · have:=itoa_of_nat n
   show _≤(Lib.itoa (n:Int)).length
   rw [this];exact hy
theorem text8_any (n:Nat) (w:World) (hn:n<9223372036854775808):Calls Tryz.prog 58 #[.int .i64 (n:Int)] w (MkS (Lib.itoa (n:Int)) w):=by
 go_enter Tryz.func58,Tryz.ntmps58
 go_wp2_with fail
 refine (of02_any n w hn).mono ?_
 rintro e w1 ⟨N,HN,rfl,hu1⟩
 obtain ⟨RV,hRV⟩:∃ RV,RV=ratV N:=⟨_,rfl⟩
 have HT:=Lib.hid (text02_any N n w1 HN.out hn)
 rw [← hRV] at HT ⊢
 clear hRV
 go_wp2_with fail
 refine HT.out.mono ?_
 rintro e w2 ⟨y,HY,hy,rfl,hu2⟩
 go_wp2_with fail
 go_ret
 exact ⟨y,HY,hy,rfl,hu1.trans hu2⟩
def boxPre (ws:List Nat) (k j:Nat):List Nat:=((List.range k).flatMap fun i=>List.replicate (ws.getD i 0) (gP (secN i))) ++ List.replicate j (gP (secN k))
theorem boxPre_snoc (ws:List Nat) (k j:Nat):boxPre ws k (j+1)=boxPre ws k j ++ [gP (secN k)]:=by
 unfold boxPre
 rw [List.replicate_succ',List.append_assoc]
theorem boxPre_next {ws:List Nat} {k x:Nat} (h:ws[k]? =some x):boxPre ws (k+1) 0=boxPre ws k x:=by
 have e:ws.getD k 0=x:=by rw [List.getD_eq_getElem?_getD,h];rfl
 unfold boxPre
 rw [List.range_succ,List.flatMap_append,List.replicate_zero,List.append_nil,← e]
 simp
theorem boxPre_len:∀ (ws:List Nat) (k j:Nat),k≤ws.length→(boxPre ws k j).length=(ws.take k).sum+j
 | ws,0,j,_=>by simp [boxPre]
 | ws,k+1,j,h=>by
  obtain ⟨x,hx⟩:∃ x,ws[k]? =some x:=⟨_,List.getElem?_eq_getElem (by omega)⟩
  have e:boxPre ws (k+1) j=boxPre ws (k+1) 0 ++ List.replicate j (gP (secN (k+1))):=by simp [boxPre]
  rw [e,boxPre_next hx,List.length_append,boxPre_len ws k x (by omega),sum_take_succ hx]
  simp
theorem boxPre_all (ws:List Nat):boxPre ws ws.length 0=boxKeys ws:=by simp [boxPre,boxKeys]
theorem append_nat (wr:World) (v:Value) (l:List Nat) (k x:Nat) (hk:l.length=k) (hown:wr.ownsRow 0 3 1 v k (digVals l)) (hb:k≤1000000) :
 ∃ v' w',(Builtin.append_ #[22,22] 22 #[v,.slice (some ⟨wr.heap.size,0,none⟩) 1 1]).run Tryz.prog (wr.alloc (.cells #[.int .i64 (x:Int)] 3))=.ok v' w'∧w'.ownsRow 0 3 1 v' (k+1) (digVals (l ++ [x]))∧Upd (foot v) (foot v') wr w':=by
 obtain ⟨v',w',h1,h2,h3⟩:=append_int wr v k (digVals l) (x:Int) hown (by omega)
 exact ⟨v',w',h1,by rw [digVals_snoc];exact h2,h3⟩
set_option maxHeartbeats 1000000 in
theorem boxes8_any (v:Value) (ws:List Nat) (w:World) (hw:WsOk ws) (h:CrewAt w v ws) :
 Calls Tryz.prog 121 #[v] w (fun e w'=>∃ u:Value,Hid (w'.ownsRow 0 3 1 u (boxKeys ws).length (digVals (boxKeys ws)))∧e=.returned u∧Hid (Upd [] (foot u) w w')):=by
 obtain ⟨ao,cap,rfl,h1,h2,h3⟩:=h
 have HM:=Lib.hid h3
 have HW:=Lib.hid hw
 have HT:=Lib.hid (sum_take_le ws)
 have hs:=hw.sum.2
 have HL:=Lib.hid (boxPre_len ws)
 obtain ⟨n,hn⟩:∃ n,n=ws.length:=⟨_,rfl⟩
 have HN:=Lib.hid hn
 have HS:=Lib.hid hs
 have hn4:n≤4:=by rw [hn];exact hw.2.1
 rw [← hn] at h1 ⊢
 clear hn h3 hw hs
 go_enter Tryz.func121,Tryz.ntmps121
 go_wp2_with fail
 go_loopw [3,4,5] (fun u i _ wr=>∃ k:Nat,i=.int .i64 (k:Int)∧k≤n∧Hid (wr.ownsRow 0 3 1 u (ws.take k).sum (digVals (boxPre ws k 0)))∧Hid (Upd [] (foot u) w wr)) (fun _ i _ _=>n - (intOf i).toNat)
 case atStart=>exact ⟨0,rfl,Nat.zero_le _,(by show World.ownsRow _ _ _ _ _ _ _;exact World.ownsRow_nil _ _ _ _),Upd.refl _ _⟩
 case round =>
  obtain ⟨k,rfl,hk,HR,HU⟩:=hrel
  by_cases hlt:k<n
  · obtain ⟨x,hx⟩:∃ x,ws[k]? =some x:=⟨_,List.getElem?_eq_getElem (by rw [← HN.out];exact hlt)⟩
    have hx1:=HW.out.2.2 x (List.mem_of_getElem? hx)
    have HX:=Lib.hid hx
    have i0:(0:Int)≤(k:Int):=by omega
    have i1:(k:Int)<(n:Int):=by omega
    clear hx
    go_wp2_with fail
    go_loopw [3,5] (fun u i wr=>∃ j:Nat,i=.int .i64 (j:Int)∧j≤x∧Hid (wr.ownsRow 0 3 1 u ((ws.take k).sum+j) (digVals (boxPre ws k j)))∧Hid (Upd [] (foot u) w wr)) (fun _ i _=>x - (intOf i).toNat)
    case atStart=>exact ⟨0,rfl,Nat.zero_le _,HR.out,HU.out⟩
    case round =>
     obtain ⟨j,rfl,hj,HR2,HU2⟩:=hrel
     have hup0:Upd [] [] w wr:=HU2.out.mono (fun _ h=>h) (fun _ h=>absurd h (by simp))
     obtain ⟨g,rfl,hg,c0,c1,c2⟩:=(HM.out.upd hup0) k _ (crewOf_get HX.out)
     dsimp only [memC] at c0 c1 c2
     clear c0 hup0
     by_cases hjx:j<x
     · obtain ⟨p,hp⟩:∃ p,p=gP (secN k):=⟨_,rfl⟩
       rw [← hp] at c2
       have hlen:=HL.out k j (by rw [← HN.out];omega)
       have hsm:=HT.out k
       obtain ⟨u',w',hrun,hown',hup'⟩:=append_nat wr u3 (boxPre ws k j) ((ws.take k).sum+j) p hlen HR2.out (by have:=HS.out;omega)
       have HRN:=Lib.hid hrun
       have HOW:Hid (w'.ownsRow 0 3 1 u' ((ws.take k).sum+(j+1)) (digVals (boxPre ws k (j+1)))):=by
        show World.ownsRow _ _ _ _ _ _ _
        rw [boxPre_snoc,← hp]
        exact hown'
       have HUP:=Lib.hid (HU2.out.trans hup')
       have x1:(j:Int)<(x:Int):=by omega
       clear hlen hsm hrun hown' hup' hp HR2 HU2
       go_wp2_with (refine wpList_append_run _ rfl _ _ _ _ rfl _ _ u' w' rfl rfl HRN.out ?_)
       exact ⟨⟨j+1,by go_num,by omega,HOW.out,HUP.out⟩,by simp [intOf];omega⟩
     · obtain rfl:j=x:=by omega
       have HOW:Hid (wr.ownsRow 0 3 1 u3 (ws.take (k+1)).sum (digVals (boxPre ws (k+1) 0))):=by
        show World.ownsRow _ _ _ _ _ _ _
        rw [sum_take_succ HX.out,boxPre_next HX.out]
        exact HR2.out
       clear HR2 HR HU
       go_wp2_with fail
       exact ⟨⟨k+1,by go_num,by omega,HOW.out,HU2.out⟩,by simp [intOf];omega⟩
  · obtain rfl:k=n:=by omega
    have hl:=HL.out k 0 (by rw [HN.out];exact Nat.le_refl _)
    have HOW:Hid (wr.ownsRow 0 3 1 u3 (boxKeys ws).length (digVals (boxKeys ws))):=by
     show World.ownsRow _ _ _ _ _ _ _
     rw [← boxPre_all,← HN.out,hl]
     exact HR.out
    clear HR hl
    go_wp2_with fail
    go_ret
    exact ⟨_,HOW,rfl,HU⟩
theorem polyN_succ (s:List UInt8) (k:Nat):polyN s (k+1)=polyN s k ++ [scalN (coefL k s)]:=by simp [polyN,List.range_succ]
set_option maxHeartbeats 1000000 in
theorem poly8_any (seed:ByteArray) (need:Nat) (w:World) (hs:seed.size≤1000000) (hn:need≤1000) :
 Calls Tryz.prog 57 #[.string seed,.int .i64 (need:Int)] w (fun e w'=>∃ u:Value,Hid (w'.ownsRow 0 3 1 u need (digVals (polyN (bs seed) need)))∧e=.returned u∧Hid (Upd [] (foot u) w w')):=by
 have h12:(ByteArray.mk #[99,111,101,102,102,105,99,105,101,110,116,32]).size=12:=rfl
 have h4:(ByteArray.mk #[32,111,102,32]).size=4:=rfl
 go_enter Tryz.func57,Tryz.ntmps57
 go_wp2_with fail
 go_loopw [5,6] (fun u i wr=>∃ k:Nat,i=.int .i64 (k:Int)∧k≤need∧Hid (wr.ownsRow 0 3 1 u k (digVals (polyN (bs seed) k)))∧Hid (Upd [] (foot u) w wr)) (fun _ i _=>need - (intOf i).toNat)
 case atStart=>exact ⟨0,rfl,Nat.zero_le _,(by show World.ownsRow _ _ _ _ _ _ _;exact World.ownsRow_nil _ _ _ _),Upd.refl _ _⟩
 case round =>
  obtain ⟨k,rfl,hk,HR,HU⟩:=hrel
  by_cases hlt:k<need
  · have i1:(k:Int)<(need:Int):=by omega
    have hk20:(Lib.itoa (k:Int)).length≤20:=itoa_len (k:Int) (by unfold i64in;omega)
    go_wp2_with fail
    refine (text8_any k wr (by omega)).mono ?_
    rintro e w1 ⟨y,HY,hy,rfl,hu1⟩
    have hR1:=row_same HR.out (fun j hj=>hu1.block j (row_foot_lt HR.out j hj) (by simp))
    have HR1:=Lib.hid hR1
    have HU1:=Lib.hid (HU.out.trans (hu1.mono (fun _ h=>absurd h (by simp)) (fun _ h=>.inr h)))
    clear hR1 hu1 HR HU
    go_wp2_with fail
    refine (rScalar_any _ w1 (by simp [ByteArray.size_append];omega)).mono ?_
    rintro e w2 ⟨c,HC,hc,rfl,hu2⟩
    obtain ⟨u',w',hrun,hown',hup'⟩:=append_nat w2 u5 (polyN (bs seed) k) k c (polyN_len _ _) (row_same HR1.out (fun j hj=>hu2.block j (row_foot_lt HR1.out j hj) (by simp))) (by omega)
    have HRN:=Lib.hid hrun
    have HOW:Hid (w'.ownsRow 0 3 1 u' (k+1) (digVals (polyN (bs seed) (k+1)))):=by
     show World.ownsRow _ _ _ _ _ _ _
     have e:scalN (coefL k (bs seed))=c:=by
      rw [HC.out]
      simp only [bs_append,HY.out]
      rfl
     rw [polyN_succ,e]
     exact hown'
    have HUP:=Lib.hid ((HU1.out.trans (hu2.mono (fun _ h=>absurd h (by simp)) (fun _ h=>.inr h))).trans hup')
    clear hrun hown' hup' hu2 HR1 HU1 HC HY hy hk20
    go_wp2_with (refine wpList_append_run _ rfl _ _ _ _ rfl _ _ u' w' rfl rfl HRN.out ?_)
    exact ⟨⟨k+1,by go_num,by omega,HOW.out,HUP.out⟩,by simp [intOf];omega⟩
  · obtain rfl:k=need:=by omega
    go_wp2_with fail
    go_ret
    exact ⟨_,HR,rfl,HU⟩
theorem decimal7_nat (u:Nat) (w:World) (hu:u<9223372036854775808):Calls Tryz.prog 183 #[.int .i64 (u:Int)] w (MkS (Lib.itoa (u:Int)) w):=by
 go_enter Tryz.func183,Tryz.ntmps183
 go_wp2_with fail
 refine (of_int u w (by omega)).mono ?_
 rintro e w1 ⟨a,HA,rfl,hu1⟩
 go_wp2_with fail
 refine (text_of u w1 a HA.out (by omega)).mono ?_
 rintro e w2 ⟨y,HY,hy,rfl,hu2⟩
 go_wp2_with fail
 go_ret
 refine ⟨y,?_,?_,rfl,hu1.trans hu2⟩
 · show _=_
   rw [HY.out];exact (itoa_of_nat u).symm
 · have:=itoa_of_nat u
   show _≤(Lib.itoa (u:Int)).length
   rw [this];exact hy
theorem itoa_nat_len (u:Nat) (h:u<9223372036854775808):(Lib.itoa (u:Int)).length≤20:=itoa_len (u:Int) (by unfold i64in;omega)
theorem pad7_any (key idx:Nat) (w:World) (hk:key<9223372036854775808) (hi:idx<9223372036854775808):Calls Tryz.prog 223 #[.int .i64 (key:Int),.int .i64 (idx:Int)] w (Mk (.agg (byteVals (padB key idx)).toArray) w):=by
 have lk:=itoa_nat_len key hk
 have li:=itoa_nat_len idx hi
 have s0:AB 64 (w.alloc (.cells (byteVals zero32).toArray 64)) w.heap.size zero32:=heap_alloc_new _ _
 have u0:Upd [] [] w (w.alloc (.cells (byteVals zero32).toArray 64)):=(Upd.refl _ _).alloc _
 have HZ:=Lib.hid s0
 have HD1:=Lib.hid (decimal7_nat key (w.alloc (.cells (byteVals zero32).toArray 64)) hk)
 clear s0
 go_enter Tryz.func223,Tryz.ntmps223
 go_wp2_with fail
 refine HD1.out.mono ?_
 rintro e w1 ⟨y,HY,hy,rfl,hq⟩
 have u1:=u0.trans hq
 have HZ1:=Lib.hid (HZ.out.upd hq)
 clear hq HZ HD1
 go_wp2_with fail
 refine (decimal7_nat idx w1 hi).mono ?_
 rintro e w2 ⟨z,HX,hz,rfl,hq⟩
 have u2:=u1.trans hq
 have HZ2:=Lib.hid (HZ1.out.upd hq)
 have h4:(ByteArray.mk #[98,111,120,47]).size=4:=rfl
 have h5:(ByteArray.mk #[47]).size=1:=rfl
 clear hq HZ1 u1
 go_wp2_with fail
 refine (rsum_any _ w2 (by simp [ByteArray.size_append];omega)).mono ?_
 rintro e w3 ⟨rfl,hq⟩
 have u3:=u2.trans hq
 have HZ3:=Lib.hid (HZ2.out.upd hq)
 obtain ⟨D,hD⟩:∃ D,D=sha (bs (⟨#[98,111,120,47]⟩ ++ y ++ ⟨#[47]⟩ ++ z)):=⟨_,rfl⟩
 have hDl:D.length=32:=by rw [hD];exact sha_length _
 have HDL:=Lib.hid hDl
 have HDE:Hid (D=padB key idx):=by
  show _=_
  rw [hD]
  simp only [bs_append,HY.out,HX.out]
  rfl
 rw [← hD]
 clear hq hD hDl HZ2
 go_wp2_with (first | (refine wpList_store_row rfl 64 _ _ rfl w.heap.size (byteVals D).toArray rfl rfl _ _ HZ3.out (hashInfo HDL.out) (by simp [byteVals,HDL.out,zero32]) (hashOne _) ?_))
 refine bodyPost_ret (results_cell_row rfl _ _ w.heap.size _ (byteVals D).toArray _ _ rfl (HZ3.out.setRow D) Tryz.underlying64 rfl (hashInfo HDL.out)) rfl ⟨?_,u3.setRowNew (by omega) _⟩
 rw [HDE.out]
theorem members7_any (v:Value) (l:List Nat) (w:World) (h:Sl w v l) (hm:∀ x∈l,memN x) (hl:l.length≤1000):Calls Tryz.prog 170 #[v] w (Ret (.bool true) w):=by
 obtain ⟨ao,cap,rfl,h1,h2⟩:=h.form
 have HS:=Lib.hid h
 have HM:=Lib.hid hm
 obtain ⟨n,hn⟩:∃ n,n=l.length:=⟨_,rfl⟩
 have HN:=Lib.hid hn
 rw [← hn] at h1 hl
 rw [← hn] at HS ⊢
 clear h hm hn
 go_enter Tryz.func170,Tryz.ntmps170
 go_wp2_with fail
 go_loopw [3,4] (fun i _ wr=>∃ k:Nat,i=.int .i64 (k:Int)∧k≤n∧wr=w) (fun i _ _=>n - (intOf i).toNat)
 case atStart=>exact ⟨0,rfl,Nat.zero_le _,(by first | trivial | rfl)⟩
 case round =>
  obtain ⟨k,rfl,hk,rfl⟩:=hrel
  by_cases hlt:k<n
  · obtain ⟨x,hx⟩:∃ x,l[k]? =some x:=⟨_,List.getElem?_eq_getElem (by rw [← HN.out];exact hlt)⟩
    obtain ⟨b,rfl,hc⟩:=HS.out.get hx
    have hxm:=HM.out x (List.mem_of_getElem? hx)
    have HX:=Lib.hid hxm
    have i0:(0:Int)≤(k:Int):=by omega
    have i1:(k:Int)<(n:Int):=by omega
    clear hx hxm
    go_wp2_with fail
    refine (rmember_is (x:Int) true _ (by have:=HX.out.2.1;unfold Pn at this;unfold i64in;omega) ((memB_cast x).2 HX.out)).mono ?_
    rintro e w' ⟨rfl,rfl⟩
    go_wp2_with fail
    exact ⟨⟨k+1,by go_num,by omega,(by first | trivial | rfl)⟩,by simp [intOf];omega⟩
  · go_wp2_with fail
    go_ret
    exact ⟨rfl,rfl⟩
theorem valN_drop {l:List Nat} {k c:Nat} (x:Nat) (h:l[k]? =some c):valN (l.drop k) x=(valN (l.drop (k+1)) x * x % Qn+c) % Qn:=by
 have hk:=(List.getElem?_eq_some_iff.1 h).1
 have e:=List.drop_eq_getElem_cons hk
 have hc:l[k]=c:=(List.getElem?_eq_some_iff.1 h).2
 rw [e,hc]
 rfl
set_option maxHeartbeats 1000000 in
theorem value7_any (v:Value) (l:List Nat) (x:Nat) (w:World) (h:Sl w v l) (hb:∀ c∈l,c<9223372036854775808) (hl:l.length≤1000) (hx:x<9223372036854775808) :
 Calls Tryz.prog 172 #[v,.int .i64 (x:Int)] w (fun e w'=>∃ r:Nat,Hid (r=valN l x)∧r<1152921504606845789∧e=.returned (.int .i64 (r:Int))∧Upd [] [] w w'):=by
 obtain ⟨ao,cap,rfl,h1,h2⟩:=h.form
 have HS:=Lib.hid h
 have HB:=Lib.hid hb
 obtain ⟨n,hn⟩:∃ n,n=l.length:=⟨_,rfl⟩
 have HN:=Lib.hid hn
 rw [← hn] at h1 hl
 rw [← hn] at HS ⊢
 have hx2:x≤9223372036854775807:=by omega
 clear h hb hn hx
 go_enter Tryz.func172,Tryz.ntmps172
 go_wp2_with fail
 go_loopw [5,6] (fun o i wr=>∃ (k r:Nat) (z:Int),o=.int .i64 (r:Int)∧i=.int .i64 z∧z=(k:Int) - 1∧k≤n∧r<1152921504606845789∧Hid (r=valN (l.drop k) x)∧Hid (Upd [] [] w wr)) (fun _ i _=>(intOf i+1).toNat)
 case atStart=>exact ⟨n,0,(n:Int) - 1,rfl,rfl,rfl,Nat.le_refl _,by omega,by show _=_;rw [HN.out,List.drop_length];rfl,Upd.refl _ _⟩
 case round =>
  obtain ⟨k,r,z,rfl,rfl,hz,hk,hr,HR,HU⟩:=hrel
  by_cases h0:0<k
  · obtain ⟨m,rfl⟩:∃ m,k=m+1:=⟨k - 1,by omega⟩
    obtain rfl:z=(m:Int):=by omega
    obtain ⟨c,hc⟩:∃ c,l[m]? =some c:=⟨_,List.getElem?_eq_getElem (by rw [← HN.out];omega)⟩
    have HS2:=Lib.hid (HS.out.upd HU.out)
    obtain ⟨b,rfl,hcell⟩:=HS2.out.get hc
    have hcb:=HB.out c (List.mem_of_getElem? hc)
    have HV:=Lib.hid (valN_drop x hc)
    have HCC:=Lib.hid hcell
    have hbl:b<wr.heap.size:=World.block_lt_of_cell? _ _ hcell
    have HK:Hid (∀ W,Upd [] [] wr W→W.cell? ⟨b,m,none⟩=some (.int .i64 (c:Int))):=fun W u=>(u.cell (p:=⟨b,m,none⟩) hbl (by simp)).trans HCC.out
    have ud0:Upd [] [] wr wr.drew:=(Upd.refl _ _).drew
    have i0:(0:Int)≤(m:Int):=by omega
    have i1:(m:Int)<(n:Int):=by omega
    clear hc hcell hz hbl
    go_upto_region 5 with (fail)
    refine wp_region_noPanic ?_
    refine wp_region_held_drew (S:=fun wp=>wp.cell? ⟨b,m,none⟩=some (.int .i64 (c:Int))) (by kernel_rfl) ?_ (fun hHeld=>?_)
    · exact HK.out _ ud0
    refine tkY 0 hHeld ?_
    refine tkY 1 hHeld ?_
    refine tkY 3 hHeld ?_
    refine tkY 4 hHeld ?_
    refine tkY 5 hHeld ?_
    refine tkY 6 hHeld ?_
    refine tk1 2 fun K hK=>?_
    go_simp;refine (rMulQ_n r x _ (by omega) (by omega)).mono ?_;rintro e wv1 ⟨a,HA,ha,rfl,rfl⟩;go_wp2_with fail
    refine tkK hK (HK.out _ ud0) fun hHeld=>?_
    clear hK K
    refine tk1 7 fun K hK=>?_
    go_simp;refine (rAddQ_n a c _ (by omega) (by omega)).mono ?_;rintro e wv2 ⟨q,HQ,hq,rfl,rfl⟩;go_wp2_with fail
    refine tkK hK (HK.out _ ud0) fun hHeld=>?_
    clear hK K
    refine tkY 8 hHeld ?_
    refine wpAnyH_done (by kernel_rfl) ?_ _
    refine NoPanic.normal ?_
    go_wp2_with fail
    refine ⟨⟨m,q,(m:Int) - 1,rfl,rfl,rfl,by omega,hq,?_,HU.out.drew⟩,(by first | (simp [intOf];done) | (simp [intOf];omega))⟩
    show _=_
    rw [HV.out,HQ.out,HA.out,HR.out]
  · obtain rfl:k=0:=by omega
    have hzn:¬ (0:Int)≤z:=by omega
    have HR2:Hid (r=valN l x):=HR.out
    clear HR
    go_wp2_with fail
    go_ret
    exact ⟨r,HR2,hr,rfl,HU.out⟩
theorem xor_u8 (a b:UInt8):bits .xor .u8 (a.toNat:Int) (b.toNat:Int)=((a ^^^ b).toNat:Int):=by
 have h:∀ c:UInt8,BitVec.ofInt 8 (c.toNat:Int)=c.toBitVec:=by
  intro c
  apply BitVec.eq_of_toNat_eq
  rw [BitVec.toNat_ofInt]
  have:=c.toNat_lt
  show ((c.toNat:Int) % 256).toNat=c.toNat
  omega
 show IntKind.u8.wrap ((BitVec.ofInt 8 (a.toNat:Int) ^^^ BitVec.ofInt 8 (b.toNat:Int)).toNat:Int)=_
 rw [h,h]
 have e:(a.toBitVec ^^^ b.toBitVec).toNat=(a ^^^ b).toNat:=rfl
 rw [e,IntKind.wrap_u8]
 have:=(a ^^^ b).toNat_lt
 omega
theorem append_byte (wr:World) (v:Value) (k:Nat) (l:List UInt8) (b:UInt8) (hown:wr.ownsRow 0 5 1 v k (byteVals l)) (hk:k≤1000000) :
 ∃ v' w',(Builtin.append_ #[126,126] 126 #[v,.slice (some ⟨wr.heap.size,0,none⟩) 1 1]).run Tryz.prog (wr.alloc (.cells #[.int .u8 (b.toNat:Int)] 5))=.ok v' w'∧w'.ownsRow 0 5 1 v' (k+1) (byteVals (l ++ [b]))∧Upd (foot v) (foot v') wr w':=by
 obtain ⟨iu,u1,u2,u3,u4⟩:=u8_parts
 have h:=append_new (P:=Tryz.prog) 126 5 iu (.int .u8 0) 1 1 Tryz.underlying126 u1 u2 u3 u4 rfl (by omega) (by omega) wr v k (byteVals l) (byteVals [b]) rfl (byteVals_one [b]) hown hk
 rw [byteVals_append]
 exact h
theorem boxL_step {y key idx k:Nat} (hk:k<8) (a h:UInt8) (ha:a=UInt8.ofNat (y / 2 ^ (8 * (7 - k)))) (hh:(padB key idx)[k]? =some h):(boxL y key idx).take (k+1)=(boxL y key idx).take k ++ [a ^^^ h]:=by
 have hl:=boxL_len y key idx
 have hp:=padB_len key idx
 rw [List.take_succ_eq_append_getElem (by omega)]
 congr 1
 have h1:(boxL y key idx)[k]? =some (a ^^^ h):=by
  unfold boxL
  rw [List.getElem?_append_left (by simp [len8_length,hp];omega),List.getElem?_zipWith]
  have e1:(len8 y)[k]? =some a:=by
   rw [ha]
   simp [len8,hk]
  have e2:((padB key idx).take 8)[k]? =some h:=by rw [List.getElem?_take_of_lt hk];exact hh
  rw [e1,e2]
 rw [(List.getElem?_eq_some_iff.1 h1).2]
theorem Upd.past2 {a b c:World} {S S':List Nat} (u:Upd [] [] a b) (v:Upd S S' b c) (hS:∀ k,k∈S→a.heap.size≤k):Upd [] [] a c:=u.past v hS
theorem boxL_last (y key idx:Nat):(boxL y key idx).take 8 ++ ((padB key idx).drop 8).take 8=boxL y key idx:=by
 have hp:=padB_len key idx
 unfold boxL
 rw [List.take_left' (by simp [len8_length,hp])]
set_option maxHeartbeats 1000000 in
theorem seal7_any (y key idx:Nat) (w:World) (_hy:y<9223372036854775808) (hk:key<9223372036854775808) (hi:idx<9223372036854775808) :
 Calls Tryz.prog 171 #[.int .i64 (y:Int),.int .i64 (key:Int),.int .i64 (idx:Int)] w (MkS (boxL y key idx) w):=by
 have HP:=Lib.hid (pad7_any key idx w hk hi)
 obtain ⟨H,hH⟩:∃ H,H=padB key idx:=⟨_,rfl⟩
 rw [← hH] at HP
 have HL:Hid (H.length=32):=by show _=_;rw [hH,padB_len]
 have HH:=Lib.hid hH
 clear hH hk hi
 go_enter Tryz.func171,Tryz.ntmps171
 go_wp2_with fail
 refine HP.out.mono ?_
 rintro e w1 ⟨rfl,hu1⟩
 obtain ⟨gH,hgH⟩:∃ g,w1.heap.size=g:=⟨_,rfl⟩
 obtain ⟨w2,Z2,W2,R2,hq2⟩:=blk_new w1 64 (byteVals zero32).toArray (byteVals H).toArray
 rw [hgH] at Z2 W2 R2
 have HIN:=Lib.hid (hashInfo HL.out)
 have HZL:Hid ((byteVals zero32).toArray.size=(byteVals H).toArray.size):=by show _=_;simp [byteVals,HL.out,zero32]
 have HON:=Lib.hid (hashOne H)
 have U2:=Lib.hid (hu1.trans hq2)
 have HG:Hid (w.heap.size≤gH∧gH<w2.heap.size):=⟨by rw [← hgH];exact hu1.size,(Array.getElem?_eq_some_iff.1 R2.out).1⟩
 clear hu1 hq2
 go_wp2_with (first | (refine wpList_store_rowAs rfl 64 _ _ rfl gH (byteVals H).toArray rfl rfl _ _ Z2.out HIN.out HZL.out HON.out w2 W2.out ?_))
 clear Z2 W2 HIN HZL HON HP
 go_loopw [8,9] (fun t i wr=>∃ k:Nat,i=.int .i64 (k:Int)∧k≤8∧Hid (wr.ownsRow 0 5 1 t k (byteVals ((boxL y key idx).take k)))∧Hid (wr.heap[gH]? =some (.cells (byteVals H).toArray 64 (0,0)))∧Hid (∀ x,x∈foot t→gH<x)∧Hid (Upd [] (foot t) w2 wr)) (fun _ i _=>8 - (intOf i).toNat)
 case atStart=>exact ⟨0,rfl,by omega,(by show World.ownsRow _ _ _ _ _ _ _;exact World.ownsRow_nil _ _ _ _),R2.out,fun x h=>(by cases h),Upd.refl _ _⟩
 case round =>
  obtain ⟨k,rfl,hk,HR,HB,HF,HU⟩:=hrel
  by_cases hlt:k<8
  · obtain ⟨h,hh⟩:∃ h,H[k]? =some h:=⟨_,List.getElem?_eq_getElem (by have:=HL.out;omega)⟩
    obtain ⟨a,ha⟩:∃ a,a=UInt8.ofNat (y / 2 ^ (8 * (7 - k))):=⟨_,rfl⟩
    have hstep:=boxL_step (y:=y) (key:=key) (idx:=idx) hlt a h ha (by rw [← HH.out];exact hh)
    have hc:wr.cell? ⟨gH,k,none⟩=some (.int .u8 (h.toNat:Int)):=(cell_of_row _ gH k _ _ _ HB.out).trans (by simp [byteVals,hh,byteV])
    have HKc:=Lib.hid hc
    have hbl:gH<wr.heap.size:=World.block_lt_of_cell? _ _ hc
    have HK:Hid (∀ W,Upd [] [] wr W→W.cell? ⟨gH,k,none⟩=some (.int .u8 (h.toNat:Int))):=fun W u=>(u.cell (p:=⟨gH,k,none⟩) hbl (by simp)).trans HKc.out
    obtain ⟨k8,hk8⟩:∃ k8,k8=8 * k:=⟨_,rfl⟩
    obtain ⟨m8,hm8⟩:∃ m8,m8=56 - 8 * k:=⟨_,rfl⟩
    have e1:IntKind.i64.wrap (8 * (k:Int))=(k8:Int):=by rw [wrap_in (by omega) (by omega)];omega
    have e2:IntKind.i64.wrap (56 - (k8:Int))=(m8:Int):=by rw [wrap_in (by omega) (by omega)];omega
    have e3:IntKind.u8.wrap ((y:Int) / 2 ^ m8)=(a.toNat:Int):=by
     have:(UInt8.ofNat (y / 2 ^ (8 * (7 - k)))).toNat=y / 2 ^ (8 * (7 - k)) % 256:=by simp
     rw [IntKind.wrap_u8,ha,this,show m8=8 * (7 - k) by omega]
     simp
    have e4:=xor_u8 a h
    have m0:m8<64:=by omega
    obtain ⟨t',w',hrun,hown',hup'⟩:=append_byte wr.drew u8 k ((boxL y key idx).take k) (a ^^^ h) (row_same HR.out (fun _ _=>rfl)) (by omega)
    rw [← hstep] at hown'
    have HRN:=Lib.hid hrun
    have HOW:=Lib.hid hown'
    have HUP:=Lib.hid (HU.out.drew.trans hup')
    have hoff:∀ x,x∈foot t'→gH<x:=fun x hx=>by
     rcases hup'.new x hx with q | q
     · exact HF.out x q
     · exact Nat.lt_of_lt_of_le hbl q
    have hrow:w'.heap[gH]? =some (.cells (byteVals H).toArray 64 (0,0)):=(hup'.block gH hbl (fun q=>Nat.lt_irrefl _ (HF.out gH q))).trans HB.out
    have hkw:w'.cell? ⟨gH,k,none⟩=some (.int .u8 (h.toNat:Int)):=(cell_of_row _ gH k _ _ _ hrow).trans (by simp [byteVals,hh,byteV])
    have HKW:=Lib.hid hkw
    have HOFF:=Lib.hid hoff
    have HROW:=Lib.hid hrow
    have ud0:Upd [] [] wr wr.drew:=(Upd.refl _ _).drew
    have i0:(0:Int)≤(k:Int):=by omega
    have i1:(k:Int)<32:=by omega
    clear hkw hstep hc hrun hown' hup' hoff hrow hh ha hk8 hm8 hbl HKc
    go_upto_region 6 with (fail)
    refine wp_region_noPanic ?_
    refine wp_region_held_drew (S:=fun wp=>wp.cell? ⟨gH,k,none⟩=some (.int .u8 (h.toNat:Int))) (by kernel_rfl) ?_ (fun hHeld=>?_)
    · exact HK.out _ ud0
    refine tkY 0 hHeld ?_
    refine tkY 1 hHeld ?_
    refine tkY 2 hHeld ?_
    refine tkY 3 hHeld ?_
    refine tkY 4 hHeld ?_
    refine tkY 5 hHeld ?_
    refine tkY 6 hHeld ?_
    refine tkY 7 hHeld ?_
    refine tkY 8 hHeld ?_
    refine tkY 9 hHeld ?_
    refine tkY 10 hHeld ?_
    refine tk1 11 fun K hK=>?_
    go_simp
    refine tkK hK (HK.out _ (ud0.alloc _)) fun hHeld=>?_
    clear hK K
    refine tk1 12 fun K hK=>?_
    refine step_append_run _ rfl _ _ _ _ rfl u8 (.slice (some ⟨wr.drew.heap.size,0,none⟩) 1 1) t' w' rfl rfl HRN.out ?_
    refine tkK hK (HKW.out) fun hHeld=>?_
    clear hK K
    refine tkY 13 hHeld ?_
    refine wpAnyH_done (by kernel_rfl) ?_ _
    refine NoPanic.normal ?_
    go_wp2_with fail
    exact ⟨⟨k+1,by go_num,by omega,HOW.out,HROW.out,HOFF.out,HUP.out⟩,(by first | (simp [intOf];done) | (simp [intOf];omega))⟩
  · obtain rfl:k=8:=by omega
    obtain ⟨iu,q1,q2,q3,q4⟩:=u8_parts
    have hcells:∀ (j:Nat) (z:Value),(byteVals ((H.drop 8).take 8))[j]? =some z→wr.cell? ((⟨gH,8,none⟩:Addr).add j)=some z:=by
     intro j z hz
     have hj:j<8:=by
      have:=(List.getElem?_eq_some_iff.1 hz).1
      simp [byteVals] at this
      omega
     have e':(⟨gH,8,none⟩:Addr).add j=⟨gH,8+j,none⟩:=by simp [Addr.add]
     rw [e',cell_of_row _ gH (8+j) _ _ _ HB.out]
     simp only [byteVals,List.map_take,List.map_drop] at hz
     rw [List.getElem?_take_of_lt hj,List.getElem?_drop] at hz
     simp only [byteVals,List.getElem?_toArray]
     exact hz
    obtain ⟨t',w',hrun,hown',hup'⟩:=append_block (P:=Tryz.prog) wr 126 126 5 iu (.int .u8 0) 1 1 Tryz.underlying126 q1 q2 q3 q4 rfl (by omega) u8 8 _ HR.out ⟨gH,8,none⟩ 8 24 (byteVals ((H.drop 8).take 8)) (by simp [byteVals,HL.out]) hcells (byteVals_one _) (by omega) (by simp only [maxLen];omega)
    have hcat:byteVals ((boxL y key idx).take 8) ++ byteVals ((H.drop 8).take 8)=byteVals (boxL y key idx):=by
     rw [← byteVals_append,HH.out,boxL_last]
    rw [hcat] at hown'
    have hcv:=conv_row (P:=Tryz.prog) w' 126 9 5 Tryz.underlying126 Tryz.underlying5 Tryz.underlying9 t' (boxL y key idx) (by rw [boxL_len];exact hown')
    have HCV:=Lib.hid hcv
    have HRN:=Lib.hid hrun
    have HUP:=Lib.hid ((U2.out.trans (HU.out.mono (fun _ h=>h) (fun _ h=>absurd h (by simp)))).past2 hup' (fun x hx=>Nat.le_trans HG.out.1 (Nat.le_of_lt (HF.out x hx))))
    clear hcells hrun hown' hup' hcat hcv q1 q2 q3 q4 HR HB
    go_wp2_with (refine wpList_append_run _ rfl _ _ _ _ rfl _ _ t' w' rfl rfl HRN.out ?_)
    rw [HCV.out]
    go_wp2_with fail
    go_ret
    exact ⟨⟨(boxL y key idx).toArray⟩,rfl,Nat.le_refl _,rfl,HUP.out⟩
theorem mod02_any (a m:Int) (w:World) (_ha:-9223372036854775808≤a∧a≤9223372036854775807) (hm:1≤m∧m≤9223372036854775807) :
 Calls Tryz.prog 169 #[.int .i64 a,.int .i64 m] w (RetZ .i64 m (a % m) w):=by
 have e1:=Int.tmod_eq_emod (a:=a) (b:=m)
 have e3:=Int.emod_nonneg a (show m≠0 by omega)
 have e4:=Int.emod_lt_of_pos a (show 0<m by omega)
 have H1:=Lib.hid e1
 clear e1
 go_enter Tryz.func169,Tryz.ntmps169
 go_wp2_with fail
 · go_ret
   refine retZ_mod (by omega) ?_
   have h:=H1.out
   simp only [wrap64]
   split at h <;> omega
 · go_ret
   refine retZ_mod (by omega) ?_
   have h:=H1.out
   split at h <;> omega
def NumAt (w:World) (g:Nat) (v:Value) (k:Nat):Prop:=w.heap[g]? =some (.cells #[v,.int .i64 (k:Int)] 159 (0,0))
def MkNxt (l:List Int) (g:Nat) (v:Value) (k n:Nat) (w:World) (e:Ending) (w':World):Prop:=∃ r k':Nat,Hid (r=nxtN l k n)∧r<n∧Hid (k'=min (k+1) l.length)∧e=.returned (.int .i64 (r:Int))∧Hid (NumAt w' g v k')∧Hid (Upd [g] [g] w w')
set_option maxHeartbeats 1000000 in
theorem next8_any (l:List Int) (v:Value) (g k n:Nat) (wo w:World) (hn:1≤n∧n≤1000) (hvo:RdO wo v l) (huo:Upd [] [] wo w) (hgo:wo.heap.size≤g) (hl:l.length≤9223372036854775807) (hi:∀ x∈l,i64in x) (hk:k≤l.length) (h:NumAt w g v k) :
 Calls Tryz.prog 118 #[.pointer (some ⟨g,0,none⟩),.int .i64 (n:Int)] w (MkNxt l g v k n w):=by
 obtain ⟨ao,cap,rfl,h1,h2,hget0⟩:=hvo.form
 have hget:∀ (k:Nat) x,l[k]? =some x→∃ b o,ao=some ⟨b,o,none⟩∧b<wo.heap.size∧w.cell? ⟨b,o+k,none⟩=some (.int .i64 x):=fun k x hk=>by
  obtain ⟨b,o,e,hb,hc⟩:=hget0 k x hk
  exact ⟨b,o,e,hb,(huo.cell (p:=⟨b,o+k,none⟩) hb (by simp)).trans hc⟩
 have hsz:=huo.size
 clear hget0 huo hvo
 have HI:=Lib.hid hi
 have H:=Lib.hid h
 have hgl:g<w.heap.size:=blk_lt h
 obtain ⟨m,hm⟩:∃ m,m=l.length:=⟨_,rfl⟩
 have HM:=Lib.hid hm
 rw [← hm] at hl hk h1
 have hm2:Value.slice ao l.length cap=.slice ao m cap:=by rw [hm]
 rw [hm2] at H ⊢
 have q0:w.cell? ⟨g,0,none⟩=some (.slice ao m cap):=cell_of_row _ g 0 _ _ _ H.out
 have q1:w.cell? ⟨g,1,none⟩=some (.int .i64 (k:Int)):=cell_of_row _ g 1 _ _ _ H.out
 by_cases hlt:k<m
 · obtain ⟨x,hx⟩:∃ x,l[k]? =some x:=⟨_,List.getElem?_eq_getElem (by omega)⟩
   obtain ⟨b,o,rfl,hbl,hcell⟩:=hget k x hx
   have hxi:=hi x (List.mem_of_getElem? hx)
   have hbg:b≠g:=by omega
   have hbl:b<w.heap.size:=by omega
   have HNX:Hid (((nxtN l k n:Nat):Int)=x % (n:Int)):=nxtN_some hx (by omega)
   have HNL:Hid (nxtN l k n<n):=nxtN_lt l k n (by omega)
   have d1:¬ (m:Int)≤(k:Int):=by omega
   have HCL:=Lib.hid hcell
   obtain ⟨k9,hk9⟩:∃ k9,k9=k+1:=⟨_,rfl⟩
   have e1:IntKind.i64.wrap ((k:Int)+1)=(k9:Int):=by rw [wrap_in (by omega) (by omega)];omega
   have e2:IntKind.i64.wrap ((k9:Int) - 1)=(k:Int):=by rw [wrap_in (by omega) (by omega)];omega
   have HK9:Hid (k9=min (k+1) l.length):=by show _=_;rw [← HM.out];omega
   have HBL:=Lib.hid (And.intro hbl (And.intro hbg hgl))
   have HXI:=Lib.hid hxi
   have i0:(0:Int)≤(k:Int):=by omega
   have i1:(k:Int)<(m:Int):=by omega
   clear hget hi h hm hm2 hx hcell hk9 hbl hbg hgl hxi hgo hsz
   go_enter Tryz.func118,Tryz.ntmps118
   go_upto_region 1 with (fail)
   go_quiet (fail)
   have R0:=Lib.hid (show (w.drewN nq).heap[g]? =some (.cells #[.slice (some ⟨b,o,none⟩) m cap,.int .i64 (k:Int)] 159 (0,0)) from H.out)
   have C0:=Lib.hid (show (w.drewN nq).cell? ⟨b,o+k,none⟩=some (.int .i64 x) from HCL.out)
   have U0:=Lib.hid (((Upd.refl [g] w).drewN nq))
   clear q0 q1 H HCL
   generalize w.drewN nq=w1 at *
   have q0:w1.cell? ⟨g,0,none⟩=some (.slice (some ⟨b,o,none⟩) m cap):=cell_of_row _ g 0 _ _ _ R0.out
   have q1:w1.cell? ⟨g,1,none⟩=some (.int .i64 (k:Int)):=cell_of_row _ g 1 _ _ _ R0.out
   have f1:w1.frozen? ⟨g,1,none⟩=false:=frozen_of_row _ g 1 _ _ R0.out
   obtain ⟨w2,hw2⟩:∃ W,w1.setCell ⟨g,1,none⟩ (.int .i64 (k9:Int))=W:=⟨_,rfl⟩
   have R2:=Lib.hid ((congrArg (fun W:World=>W.heap[g]?) hw2.symm).trans (heap_setCell_same w1 g 1 _ _ (.int .i64 (k9:Int)) R0.out))
   have R2':Hid (NumAt w2 g (.slice (some ⟨b,o,none⟩) m cap) k9):=R2.out
   have U2:=Lib.hid (show Upd [g] [g] w w2 by rw [← hw2];exact U0.out.setCell (p:=⟨g,1,none⟩) (by simp) _)
   have C2:Hid (w2.cell? ⟨b,o+k,none⟩=some (.int .i64 x)):=by
    show _=_
    rw [← hw2]
    exact (World.cell?_setCell_other _ _ _ _ (fun e=>HBL.out.2.1 (Addr.mk.inj e).1.symm)).trans C0.out
   have HK:Hid (∀ W,Upd [] [] w2 W→W.cell? ⟨g,0,none⟩=some (.slice (some ⟨b,o,none⟩) m cap)∧W.cell? ⟨g,1,none⟩=some (.int .i64 (k9:Int))∧W.cell? ⟨b,o+k,none⟩=some (.int .i64 x)):=by
    intro W u
    have q:=row_updH R2'.out u
    exact ⟨cell_of_row _ g 0 _ _ _ q,cell_of_row _ g 1 _ _ _ q,(u.cell (p:=⟨b,o+k,none⟩) (World.block_lt_of_cell? _ _ C2.out) (by simp)).trans C2.out⟩
   have ud0:Upd [] [] w2 w2.drew:=(Upd.refl _ _).drew
   clear R2 R0 C0 U0
   go_upto_region 4 with (fail)
   refine wp_region_noPanic ?_
   refine wp_region_held_drew (S:=fun wp=>wp.cell? ⟨g,0,none⟩=some (.slice (some ⟨b,o,none⟩) m cap)∧wp.cell? ⟨g,1,none⟩=some (.int .i64 (k9:Int))∧wp.cell? ⟨b,o+k,none⟩=some (.int .i64 x)) (by kernel_rfl) ?_ (fun hHeld=>?_)
   · exact HK.out _ ud0
   refine tkY 0 hHeld ?_
   refine tkY 1 hHeld ?_
   refine tkY 2 hHeld ?_
   refine tkY 3 hHeld ?_
   refine tkY 4 hHeld ?_
   refine tkY 5 hHeld ?_
   refine tkY 6 hHeld ?_
   refine tkY 7 hHeld ?_
   refine tkY 8 hHeld ?_
   refine tkY 9 hHeld ?_
   refine tkY 10 hHeld ?_
   refine tkY 11 hHeld ?_
   refine tk1 12 fun K hK=>?_
   go_simp;refine (mod02_any x (n:Int) _ HXI.out (by omega)).mono ?_;rintro e wv1 ⟨r,HR,hr0,hr1,rfl,rfl⟩;go_wp2_with fail
   refine tkK hK (HK.out _ ud0) fun hHeld=>?_
   clear hK K
   refine tkY 13 hHeld ?_
   refine wpAnyH_done (by kernel_rfl) ?_ _
   refine NoPanic.normal ?_
   go_wp2_with fail
   go_ret
   refine ⟨nxtN l k n,k9,rfl,HNL.out,HK9,?_,R2'.out,U2.out.drew⟩
   rw [HNX.out,← HR.out]
   rfl
 · obtain rfl:k=m:=by omega
   have d1:(k:Int)≤(k:Int):=by omega
   have HNX:Hid (nxtN l k n=0):=nxtN_none (by omega)
   have HK9:Hid (k=min (k+1) l.length):=by show _=_;rw [← HM.out];omega
   have hn0:0<n:=by omega
   clear hget hi h hm hm2 HI hgo hsz
   go_enter Tryz.func118,Tryz.ntmps118
   go_upto_region 1 with (fail)
   go_quiet (fail)
   go_wp2_with fail
   go_ret
   exact ⟨0,k,HNX.out.symm,hn0,HK9,rfl,H.out,(Upd.refl [g] w).drewN nq⟩
theorem mbI:∃ i,Tryz.prog.info? 52=some i∧i.zero=some (.agg #[.int .i64 0,.int .i64 0,.int .i64 0])∧i.size=3∧i.bytes=24:=by
 have h:(Tryz.prog.info? 52).map (fun i=>(i.zero,i.size,i.bytes))=some (some (.agg #[.int .i64 0,.int .i64 0,.int .i64 0]),3,24):=by kernel_rfl
 obtain ⟨i,hi,he⟩:=Option.map_eq_some_iff.1 h
 simp only [Prod.mk.injEq] at he
 exact ⟨i,hi,he.1,he.2.1,he.2.2⟩
def mbVals (l:List Mem):List Value:=l.flatMap fun m=>[.int .i64 m.id,.int .i64 m.weight,.int .i64 m.pub]
theorem mbVals_snoc (l:List Mem) (m:Mem):mbVals (l ++ [m])=mbVals l ++ [.int .i64 m.id,.int .i64 m.weight,.int .i64 m.pub]:=by simp [mbVals]
theorem mbVals_get:∀ {l:List Mem} {k:Nat} {m:Mem},l[k]? =some m→(mbVals l)[k * 3]? =some (.int .i64 m.id)∧(mbVals l)[k * 3+1]? =some (.int .i64 m.weight)∧(mbVals l)[k * 3+2]? =some (.int .i64 m.pub)
 | a :: l,0,m,h=>by
  simp at h
  subst h
  exact ⟨rfl,rfl,rfl⟩
 | a :: l,k+1,m,h=>by
  have:=mbVals_get (l:=l) (k:=k) (m:=m) (by simpa using h)
  have e:(k+1) * 3=k * 3+3:=by omega
  rw [e]
  simpa [mbVals] using this
theorem append_mb (wr:World) (v:Value) (l:List Mem) (k:Nat) (id wt pub:Int) (_hk:l.length=k) (hown:wr.ownsRow 0 52 3 v k (mbVals l)) (hb:k≤1000000) :
 ∃ v' w',(Builtin.append_ #[25,25] 25 #[v,.slice (some ⟨wr.heap.size,0,none⟩) 1 1]).run Tryz.prog (wr.alloc (.cells #[.int .i64 id,.int .i64 wt,.int .i64 pub] 52))=.ok v' w'∧w'.ownsRow 0 52 3 v' (k+1) (mbVals (l ++ [⟨id,wt,pub⟩]))∧Upd (foot v) (foot v') wr w':=by
 obtain ⟨iu,u1,u2,u3,u4⟩:=mbI
 have h:=append_new (P:=Tryz.prog) 25 52 iu _ 3 24 Tryz.underlying25 u1 u2 u3 u4 rfl (by omega) (by omega) wr v k (mbVals l) [.int .i64 id,.int .i64 wt,.int .i64 pub] rfl (by intro u hu;simp at hu;rcases hu with rfl | rfl | rfl <;> rfl) hown hb
 rw [mbVals_snoc]
 exact h
theorem mbs_of_row {w:World} {v:Value} {l:List Mem} {n:Nat} (hn:l.length=n) (h:w.ownsRow 0 52 3 v n (mbVals l)):∃ ao cap,v=.slice ao n cap∧n≤cap∧cap≤maxLen∧MbsIn w ao l:=by
 subst hn
 by_cases h0:l.length=0
 · obtain ⟨ao,cap,rfl,h1,h2⟩:=row_slice h
   exact ⟨ao,cap,rfl,h1,h2,fun k m hm=>by have:=(List.getElem?_eq_some_iff.1 hm).1;omega⟩
 · obtain ⟨g,cap,cur,rfl,hg,h1,h2,h3,h4⟩:=row_pos h (by omega)
   refine ⟨_,cap,rfl,h1,h2,fun k m hm=>⟨g,rfl,blk_lt hg,?_⟩⟩
   have hkl:=(List.getElem?_eq_some_iff.1 hm).1
   obtain ⟨a0,a1,a2⟩:=mbVals_get hm
   rw [← h4] at a0 a1 a2
   rw [List.getElem?_take_of_lt (by omega)] at a0 a1 a2
   exact ⟨(cell_of_row w g (k * 3) _ _ _ hg).trans (by simpa using a0),(cell_of_row w g (k * 3+1) _ _ _ hg).trans (by simpa using a1),(cell_of_row w g (k * 3+2) _ _ _ hg).trans (by simpa using a2)⟩
def crewPre (l:List Int) (k:Nat):List Mem:=(List.range k).map fun i=>memC i (1+nxtN l (i+1) 3)
theorem crewPre_succ (l:List Int) (k:Nat):crewPre l (k+1)=crewPre l k ++ [memC k (1+nxtN l (k+1) 3)]:=by simp [crewPre,List.range_succ]
theorem crewPre_len (l:List Int) (k:Nat):(crewPre l k).length=k:=by simp [crewPre]
theorem crewPre_all (l:List Int) (k:Nat):crewPre l k=crewOf (wsN l k):=by
 unfold crewPre crewOf
 have e:(wsN l k).length=k:=by simp [wsN]
 rw [e]
 apply List.map_congr_left
 intro i hi
 have:(wsN l k).getD i 0=1+nxtN l (i+1) 3:=by
  rw [List.getD_eq_getElem?_getD]
  simp [wsN,List.mem_range.1 hi]
 rw [this]
theorem secsOf_succ (k:Nat):secsOf (k+1)=secsOf k ++ [secN k]:=by simp [secsOf,List.range_succ]
theorem secsOf_len (k:Nat):(secsOf k).length=k:=by simp [secsOf]
theorem nxtN_at (l:List Int) (k n:Nat):nxtN l (min k l.length) n=nxtN l k n:=by
 by_cases h:k≤l.length
 · rw [Nat.min_eq_left h]
 · rw [nxtN_none (by omega),nxtN_none (by omega)]
end Go.Proofs.YtmjlkkbbnkanpaaGreatDoor
