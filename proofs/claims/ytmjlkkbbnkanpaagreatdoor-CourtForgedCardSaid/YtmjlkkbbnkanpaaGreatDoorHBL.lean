/- The walk of CourtForged. -/
import Derived.Test.YtmjlkkbbnkanpaaGreatDoorHAA
import Derived.Test.YtmjlkkbbnkanpaaGreatDoorHBJ
import Derived.Test.YtmjlkkbbnkanpaaGreatDoorHBK
namespace Go.Proofs.YtmjlkkbbnkanpaaGreatDoor
open Go.RowKit
set_option maxRecDepth 100000
set_option maxHeartbeats 8000000 in
theorem courtForged_walk (l:List Int) (v:Value) (kd:Nat) (q0 q1 q2 q3:Int) (w:World) (hv:RdO w v l) (hi:∀ x∈l,i64in x) (hl:l.length≤9223372036854775807) (hkd:kd<256) (h0:i64in q0) (h1:i64in q1) (h2:i64in q2) (h3:i64in q3) (htab:Tabs w) :
 Calls Tryz.prog 3 #[v,.int .u8 (kd:Int),.agg #[.int .i64 q0,.int .i64 q1,.int .i64 q2,.int .i64 q3]] w (TrueMk w):=by
 obtain ⟨gQ,hgQ⟩:∃ g,w.heap.size=g:=⟨_,rfl⟩
 obtain ⟨w0,hw0⟩:∃ W,w.alloc (.cells #[.int .i64 q0,.int .i64 q1,.int .i64 q2,.int .i64 q3] 23)=W:=⟨_,rfl⟩
 have r0:=Lib.hid (show w0.heap[gQ]? =some (.cells #[.int .i64 q0,.int .i64 q1,.int .i64 q2,.int .i64 q3] 23 (0,0)) by rw [← hgQ,← hw0];exact heap_alloc_new _ _)
 have u0:=Lib.hid (show Upd [] [] w w0 by rw [← hw0];exact (Upd.refl _ _).alloc _)
 have HSAN:=Lib.hid (sanity33_any w0 (htab.upd u0.out))
 have HMK:=Lib.hid (fun W (u:Upd [] [] w W)=>make33_any l v W (hv.upd u) hi hl)
 have HQ:=Lib.hid (And.intro h0 (And.intro h1 (And.intro h2 h3)))
 obtain ⟨m,hm⟩:∃ m,m=kd % 5:=⟨_,rfl⟩
 have hm1:(kd:Int).tmod 5=(m:Int):=by rw [Int.tmod_eq_emod_of_nonneg (by omega)];omega
 obtain ⟨kk,hkk⟩:∃ kk:Int,kk=1+(m:Int):=⟨_,rfl⟩
 have hm2:IntKind.i64.wrap (1+(m:Int))=kk:=by rw [IntWalk.i64_in _ (by omega)];exact hkk.symm
 have HKK:Hid (1≤kk∧kk≤5):=by show _∧_;omega
 have HMK2:Hid (wrap64 (1+wrap64 (m:Int))=kk):=by
  have e:wrap64 (m:Int)=(m:Int):=by simp [wrap64];omega
  show _=_
  rw [e,hkk]
  simp [wrap64]
  omega
 clear hv hi hl hkd h0 h1 h2 h3 hm hkk
 go_enter Tryz.func3,Tryz.ntmps3
 go_wp2_with fail
 refine HSAN.out.mono ?_
 rintro e w1 ⟨rfl,hq⟩
 have U1:=Lib.hid (u0.out.trans hq)
 have R1:=Lib.hid (row_updH r0.out hq)
 clear hq HSAN r0 hw0
 go_wp2_with fail
 refine (HMK.out w1 U1.out).mono ?_
 rintro e w2 ⟨L,K,P,KM,S,C,KS,HC,rfl,hq⟩
 obtain ⟨CA,hCA⟩:∃ CA,CA=csV L K P KM S C KS:=⟨_,rfl⟩
 rw [← hCA]
 obtain ⟨ao,cap,eL,hcap,_,_⟩:=HC.out.made.crew
 have hwl:(wsN l (manyN l)).length=manyN l:=by simp [wsN]
 rw [hwl] at eL hcap
 have HCI:Hid ((Tryz.prog.info? 34).map (·.size)=some CA.size):=by rw [hCA];exact csInfo _ _ _ _ _ _ _
 have HCO:Hid (CA.all (·.oneCell')=true):=by
  obtain ⟨a1,n1,c1,e1⟩:∃ a n c,K=.slice a n c:=by obtain ⟨a,c,e,_⟩:=HC.out.made.coms;exact ⟨a,_,c,e⟩
  obtain ⟨a2,n2,c2,e2⟩:∃ a n c,P=.slice a n c:=by obtain ⟨a,c,e,_⟩:=HC.out.made.pts;exact ⟨a,_,c,e⟩
  obtain ⟨a3,n3,c3,e3⟩:∃ a n c,KM=.slice a n c:=by obtain ⟨a,c,e,_⟩:=HC.out.kmem;exact ⟨a,_,c,e⟩
  obtain ⟨a4,n4,c4,e4⟩:∃ a n c,S=.slice a n c:=by obtain ⟨a,c,e,_⟩:=HC.out.made.secs;exact ⟨a,_,c,e⟩
  obtain ⟨a5,n5,c5,e5⟩:∃ a n c,C=.slice a n c:=by obtain ⟨a,c,e,_⟩:=HC.out.made.coefs;exact ⟨a,_,c,e⟩
  obtain ⟨a6,n6,c6,e6⟩:∃ a n c,KS=.slice a n c:=by obtain ⟨a,c,e,_⟩:=HC.out.ksec;exact ⟨a,_,c,e⟩
  show _=_
  rw [hCA,eL,e1,e2,e3,e4,e5,e6]
  simp [csV,Value.oneCell']
 have HCZ:Hid ((#[.slice none 0 0,.slice none 0 0,.slice none 0 0,.slice none 0 0,.int .i64 0,.int .i64 0,.slice none 0 0,.slice none 0 0,.slice none 0 0,.slice none 0 0,.slice none 0 0,.slice none 0 0,.slice none 0 0]:Array Value).size=CA.size):=by rw [hCA];rfl
 obtain ⟨w3,Z3,W3,RC3,hq3⟩:=blk_new w2 34 #[.slice none 0 0,.slice none 0 0,.slice none 0 0,.slice none 0 0,.int .i64 0,.int .i64 0,.slice none 0 0,.slice none 0 0,.slice none 0 0,.slice none 0 0,.slice none 0 0,.slice none 0 0,.slice none 0 0] CA
 obtain ⟨gC,hgC⟩:∃ g,w2.heap.size=g:=⟨_,rfl⟩
 rw [hgC] at Z3 W3 RC3
 have U3:=Lib.hid ((U1.out.trans hq).trans hq3)
 have R3:=Lib.hid (row_updH (row_updH R1.out hq) hq3)
 have HC3:=Lib.hid (HC.out.upd hq3)
 obtain ⟨i0,i1,i2,i3⟩:=HQ.out
 have HGU:=Lib.hid (guiltyF_any l L K P KM S C KS w3 HC3.out kk q0 q1 q2 q3 i0 i1 i2 i3 HKK.out)
 rw [← hCA] at HGU
 have k0:w3.cell? ⟨gQ,0,none⟩=some (.int .i64 q0):=cell_of_row _ gQ 0 _ _ _ R3.out
 have k1:w3.cell? ⟨gQ,1,none⟩=some (.int .i64 q1):=cell_of_row _ gQ 1 _ _ _ R3.out
 have k2:w3.cell? ⟨gQ,2,none⟩=some (.int .i64 q2):=cell_of_row _ gQ 2 _ _ _ R3.out
 have k3:w3.cell? ⟨gQ,3,none⟩=some (.int .i64 q3):=cell_of_row _ gQ 3 _ _ _ R3.out
 have HCA:=Lib.hid (And.intro hCA eL)
 have HCAP:=Lib.hid hcap
 clear hq hq3 HMK U1 R1 hwl i0 i1 i2 i3 hCA eL hcap
 go_wp2_with (first | (refine wpList_store_rowAs rfl 34 _ _ rfl gC CA rfl rfl _ _ Z3.out HCI.out HCZ.out HCO.out w3 W3.out ?_) | (refine wpList_load_row rfl 34 _ rfl gC rfl _ CA _ _ RC3.out Tryz.underlying34 rfl HCI.out ?_))
 rw [HMK2.out]
 refine HGU.out.mono ?_
 rintro e w4 ⟨X,HX,rfl,hq⟩
 obtain ⟨kX,hkX,hwho,haw,haT,hbT,hbr,hbs,hlo,hhi,hFA,hkd⟩:=HX.out
 have HXX:=Lib.hid HX.out
 have HWHO:=Lib.hid hwho
 obtain ⟨XV,hXV⟩:∃ XV,XV=X.V:=⟨_,rfl⟩
 rw [← hXV]
 have HXI:Hid ((Tryz.prog.info? 48).map (·.size)=some XV.size):=by rw [hXV];exact X.info
 have HXO:Hid (XV.all (·.oneCell')=true):=by rw [hXV];exact X.one
 have HXZ:Hid ((#[.int .i64 0,.int .i64 0,.int .i64 0,.string ⟨#[]⟩,.int .i64 0,.int .i64 0,.int .i64 0,.string ⟨#[]⟩,.int .i64 0,.int .i64 0,.int .i64 0,.int .i64 0,.string ⟨#[]⟩,.string ⟨#[]⟩,.string ⟨#[]⟩,.int .i64 0,.int .i64 0,.int .i64 0,.int .i64 0]:Array Value).size=XV.size):=by rw [hXV];rfl
 obtain ⟨w5,Z5,W5,RX5,hq5⟩:=blk_new w4 48 #[.int .i64 0,.int .i64 0,.int .i64 0,.string ⟨#[]⟩,.int .i64 0,.int .i64 0,.int .i64 0,.string ⟨#[]⟩,.int .i64 0,.int .i64 0,.int .i64 0,.int .i64 0,.string ⟨#[]⟩,.string ⟨#[]⟩,.string ⟨#[]⟩,.int .i64 0,.int .i64 0,.int .i64 0,.int .i64 0] XV
 obtain ⟨gE,hgE⟩:∃ g,w4.heap.size=g:=⟨_,rfl⟩
 rw [hgE] at Z5 W5 RX5
 have U5:=Lib.hid ((U3.out.trans hq).trans hq5)
 have HQ35:=Lib.hid (hq.trans hq5)
 have HGE3:Hid (w3.heap.size≤gE):=by rw [← hgE];exact hq.size
 have RC5:=Lib.hid (row_updH (row_updH RC3.out hq) hq5)
 have HC5:=Lib.hid ((HC3.out.upd hq).upd hq5)
 obtain ⟨n,hn⟩:∃ n,n=manyN l:=⟨_,rfl⟩
 obtain ⟨tx,htx⟩:∃ t,t=X.aT:=⟨_,rfl⟩
 have hn4:n≤4:=by rw [hn];exact (manyN_le l).2
 obtain ⟨gM,cpM,eM,_⟩:=HC5.out.memb hkX
 have hne:gC≠gE:=by have:=blk_lt (row_updH RC3.out hq);omega
 have HNE:=Lib.hid hne
 have HK:Hid (∀ W,Upd [] [] w5 W→W.cell? ⟨gC,0,none⟩=some (.slice (some ⟨gM,0,none⟩) n cpM)∧W.cell? ⟨gE,1,none⟩=some (.int .i64 ((kX+1:Nat):Int))∧W.cell? ⟨gE,3,none⟩=some (.string tx)):=fun W u =>
  ⟨(cell_of_row _ gC 0 _ _ _ (row_updH RC5.out u)).trans (by rw [HCA.out.1,hn,← eM];rfl),(cell_of_row _ gE 1 _ _ _ (row_updH RX5.out u)).trans (by rw [hXV,← hwho];rfl),(cell_of_row _ gE 3 _ _ _ (row_updH RX5.out u)).trans (by rw [hXV,htx];rfl)⟩
 have HMB:Hid (∀ W,Upd [] [] w5 W→∀ k,k<n→W.cell? ⟨gM,k * 3,none⟩=some (.int .i64 ((k+1:Nat):Int))∧W.cell? ⟨gM,k * 3+2,none⟩=some (.int .i64 (gP (secN k):Int))):=fun W u k hk=>by
  obtain ⟨g,c,e,_,c1,c2⟩:=(HC5.out.upd u).memb (by rw [← hn];exact hk)
  rw [eM] at e
  injection e with e
  injection e with e
  injection e with e
  subst e
  exact ⟨c1,c2⟩
 have HKX:Hid (kX<n):=by show _<_;rw [hn];exact hkX
 have HTX:=Lib.hid (And.intro htx hXV)
 have HNN:=Lib.hid hn
 clear hq hq5 HGU k0 k1 k2 k3 hm1 hm2 hkX hwho haw haT hbT hbr hbs hlo hhi hFA hkd hXV eM hn htx hne R3 HC HX
 go_wp2_with (first | (refine wpList_store_rowAs rfl 48 _ _ rfl gE XV rfl rfl _ _ Z5.out HXI.out HXZ.out HXO.out w5 W5.out ?_))
 go_loopw [10,11] (fun p i wr=>∃ (k:Nat) (z:Int),i=.int .i64 (k:Int)∧p=.int .i64 z∧k≤n∧Hid (z=(if kX<k then (gP (secN kX):Int) else 0))∧Hid (Upd [] [] w5 wr)) (fun _ i _=>n - (intOf i).toNat)
 case atStart=>exact ⟨0,0,rfl,rfl,Nat.zero_le _,(by show _=_;simp),Upd.refl _ _⟩
 case round =>
  obtain ⟨k,z,rfl,rfl,hk,HZ,HU⟩:=hrel
  obtain ⟨c0,c1,c3⟩:=HK.out wr HU.out
  have i0:(0:Int)≤(k:Int):=by omega
  have n0:(0:Int)≤(n:Int):=by omega
  by_cases hlt:k<n
  · obtain ⟨d0,d2⟩:=HMB.out wr HU.out k hlt
    have i1:(k:Int)<(n:Int):=by omega
    have ud0:Upd [] [] wr wr.drew:=(Upd.refl _ _).drew
    have HUD:=Lib.hid (HU.out.trans ud0)
    have HKD:=Lib.hid (And.intro (HK.out _ HUD.out) (HMB.out _ HUD.out k hlt))
    obtain ⟨a,ha⟩:∃ a:Int,a=((k+1:Nat):Int):=⟨_,rfl⟩
    obtain ⟨b,hb⟩:∃ b:Int,b=((kX+1:Nat):Int):=⟨_,rfl⟩
    have HAB:=Lib.hid (And.intro ha hb)
    have HKR:Hid (wr.drew.cell? ⟨gC,0,none⟩=some (.slice (some ⟨gM,0,none⟩) n cpM)∧wr.drew.cell? ⟨gM,k * 3,none⟩=some (.int .i64 a)∧wr.drew.cell? ⟨gE,1,none⟩=some (.int .i64 b)):=by
     rw [ha,hb]
     exact ⟨HKD.out.1.1,HKD.out.2.1,HKD.out.1.2.1⟩
    clear ha hb
    by_cases hkx:k=kX
    · have g1:(a == b)=true:=by rw [beq_iff_eq,HAB.out.1,HAB.out.2,hkx]
      have HZ3:Hid ((gP (secN k):Int)=(if kX<k+1 then (gP (secN kX):Int) else 0)):=by show _=_;rw [if_pos (by omega),hkx]
      clear hkx
      go_upto_region 8 with (fail)
      clear c0 c1 c3 d0 d2
      have c0:=HKD.out.1.1
      have d2:=HKD.out.2.2
      refine wp_region_noPanic ?_
      refine wp_region_held_drew (S:=fun wp=>wp.cell? ⟨gC,0,none⟩=some (.slice (some ⟨gM,0,none⟩) n cpM)∧wp.cell? ⟨gM,k * 3,none⟩=some (.int .i64 a)∧wp.cell? ⟨gE,1,none⟩=some (.int .i64 b)) (by kernel_rfl) ?_ (fun hHeld=>?_)
      · exact HKR.out
      refine tkY 0 hHeld ?_
      refine tkY 1 hHeld ?_
      refine tkY 2 hHeld ?_
      refine tkY 3 hHeld ?_
      refine tkY 4 hHeld ?_
      refine tkY 5 hHeld ?_
      refine tkY 6 hHeld ?_
      refine tkY 7 hHeld ?_
      refine tkY 8 hHeld ?_
      refine tkY 9 hHeld ?_
      refine wpAnyH_done (by kernel_rfl) ?_ _
      refine NoPanic.normal ?_
      go_wp2_with fail
      exact ⟨⟨k+1,_,by go_num,rfl,by omega,HZ3.out,HUD.out⟩,by first | (simp [intOf];done) | (simp [intOf];omega)⟩
    · have g1:(a == b)=false:=by rw [beq_eq_false_iff_ne,HAB.out.1,HAB.out.2];omega
      have HZ3:Hid (z=(if kX<k+1 then (gP (secN kX):Int) else 0)):=by
       show _=_
       rw [HZ.out]
       by_cases h:kX<k
       · rw [if_pos h,if_pos (by omega)]
       · rw [if_neg h,if_neg (by omega)]
      clear hkx
      go_upto_region 8 with (fail)
      refine wp_region_noPanic ?_
      refine wp_region_held_drew (S:=fun wp=>wp.cell? ⟨gC,0,none⟩=some (.slice (some ⟨gM,0,none⟩) n cpM)∧wp.cell? ⟨gM,k * 3,none⟩=some (.int .i64 a)∧wp.cell? ⟨gE,1,none⟩=some (.int .i64 b)) (by kernel_rfl) ?_ (fun hHeld=>?_)
      · exact HKR.out
      refine tkY 0 hHeld ?_
      refine tkY 1 hHeld ?_
      refine tkY 2 hHeld ?_
      refine tkY 3 hHeld ?_
      refine tkY 4 hHeld ?_
      refine tkY 5 hHeld ?_
      refine tkY 6 hHeld ?_
      refine tkY 7 hHeld ?_
      refine tkY 8 hHeld ?_
      refine tkY 9 hHeld ?_
      refine wpAnyH_done (by kernel_rfl) ?_ _
      refine NoPanic.normal ?_
      go_wp2_with fail
      exact ⟨⟨k+1,_,by go_num,rfl,by omega,HZ3.out,HUD.out⟩,by first | (simp [intOf];done) | (simp [intOf];omega)⟩
  · obtain rfl:k=n:=by omega
    have i1:¬ (k:Int)<(k:Int):=by omega
    have HZ2:Hid (z=(gP (secN kX):Int)):=by show _=_;rw [HZ.out,if_pos HKX.out]
    have HKY:=Lib.hid (rkey_any ⟨#[115,111,109,101,98,111,100,121,32,101,108,115,101]⟩ wr (by show 13≤_;omega))
    go_wp2_with fail
    refine HKY.out.mono ?_
    rintro e w6 ⟨sx,px,_,_,hsx,hpx,rfl,hq⟩
    have HU6:=Lib.hid (HU.out.trans hq)
    obtain ⟨c0,c1,c3⟩:=HK.out w6 HU6.out
    clear hq HKY
    obtain ⟨kY,hkY,hwho,haw,haT,hbT,hbr,hbs,hlo,hhi,hFA,hkd⟩:=HXX.out
    have htz:tx.size≤900000:=by rw [HTX.out.1];exact haT
    have HSG:=Lib.hid (fun W=>rsign_any (sx:Int) tx W (by omega) (by omega))
    go_wp2_with fail
    refine (HSG.out w6).mono ?_
    rintro e w7 ⟨r,s,_,_,hr,hs,rfl,hq⟩
    have HU7:=Lib.hid (HU6.out.trans hq)
    obtain ⟨SG,hSG⟩:∃ SG:Array Value,SG=#[.int .i64 (r:Int),.int .i64 (s:Int)]:=⟨_,rfl⟩
    rw [← hSG]
    have RX7:=row_updH RX5.out HU7.out
    have HGI:Hid ((Tryz.prog.info? 37).map (·.size)=some SG.size):=by rw [hSG];exact sigInfo _ _
    have HGO:Hid (SG.all (·.oneCell')=true):=by rw [hSG];exact sigOne _ _
    have TQ:Hid (w7.there gE 4 SG.size):=there_of_row RX7 (by rw [hSG,HTX.out.2];exact (by decide:4+2≤19))
    obtain ⟨w8,hw8⟩:∃ W,w7.setCells gE 4 SG.toList=W:=⟨_,rfl⟩
    obtain ⟨XW,hXW⟩:∃ XW,XW=({ X with ar:=(r:Int),as':=(s:Int) }:EvdG).V:=⟨_,rfl⟩
    have RX8:w8.heap[gE]? =some (.cells XW 48 (0,0)):=by
     have h:=heap_setCells gE _ SG.toList 4 w7 _ RX7
     rw [hw8,show setAll XV 4 SG.toList=XW by rw [hXW,hSG,HTX.out.2];rfl] at h
     exact h
    have RC8:w8.heap[gC]? =some (.cells CA 34 (0,0)):=by
     rw [← hw8]
     exact row_setCellsQ (row_updH RC5.out HU7.out) HNE.out
    have V8:Upd [] [] w3 w8:=by
     have v:=(Upd.setCellsIn (g:=gE) (S:=[gE]) (S':=[gE]) (by simp) SG.toList 4 _ (Upd.refl [gE] w7))
     rw [hw8] at v
     exact (HQ35.out.trans HU7.out).past v (fun j hj=>by simp at hj;rw [hj];exact HGE3.out)
    have HV8:=Lib.hid V8
    have HC8:=Lib.hid (HC3.out.upd V8)
    have HW8:=Lib.hid hw8
    have HRX:=Lib.hid RX8
    have HRC:=Lib.hid RC8
    have c3':w8.cell? ⟨gE,3,none⟩=some (.string tx):=(cell_of_row _ gE 3 _ _ _ RX8).trans (by rw [hXW,HTX.out.1];rfl)
    have HLS:Hid ((Instr.loadAt 37 (.pointer (some ⟨gE,4,none⟩))).run Tryz.prog w8=.ok (.agg SG) w8):=by
     rw [hSG]
     exact run_loadAt_mid w8 gE 4 37 [.int .i64 (r:Int),.int .i64 (s:Int)] _ (fun j v hv=>(cell_of_row _ gE (4+j) _ _ _ RX8).trans (by
      rw [hXW]
      match j,hv with
      | 0,hv=>simp at hv;subst hv;rfl
      | 1,hv=>simp at hv;subst hv;rfl)) Tryz.underlying37 rfl (sigInfo _ _)
    obtain ⟨b,hb⟩:∃ b,verB (gP (secN kX):Int) (bs tx) (r:Int) (s:Int)=b:=⟨_,rfl⟩
    have hpi:i64in (gP (secN kX):Int):=by have:=gP_lt (secN kX);unfold i64in;unfold Pn at this;omega
    have hri:i64in (r:Int):=by unfold i64in;omega
    have hsi:i64in (s:Int):=by unfold i64in;omega
    have HVF:=Lib.hid (rverify5_is (gP (secN kX):Int) tx (r:Int) (s:Int) b w8 hpi hri hsi (by omega) hb)
    rw [← HZ2.out,← hSG] at HVF
    have HBB:=Lib.hid hb
    have HXWI:Hid ((Tryz.prog.info? 48).map (·.size)=some XW.size):=by rw [hXW];exact EvdG.info _
    have HXW:=Lib.hid hXW
    have HRS:=Lib.hid (And.intro hri hsi)
    clear hq HSG c0 c1 c3 hw8 V8 RX7 RX8 RC8 hXW hSG hb hpi hri hsi
    go_wp2_with (first | (refine wpList_store_midAs rfl 37 _ _ rfl gE 4 SG rfl rfl TQ.out HGI.out HGO.out w8 HW8.out ?_) | (refine wpList_load_atW (by rfl) 37 _ rfl gE 4 rfl SG HLS.out ?_))
    refine HVF.out.mono ?_
    rintro e w9 ⟨rfl,hq⟩
    have HU9:=Lib.hid ((U3.out.trans HV8.out).trans hq)
    have HC9:=Lib.hid (HC8.out.upd hq)
    have RX9:=Lib.hid (row_updH HRX.out hq)
    have RC9:=Lib.hid (row_updH HRC.out hq)
    clear hq HVF c3' TQ HW8 HLS
    cases b with
    | true =>
     go_wp2_with fail
     go_ret
     exact ⟨rfl,HU9.out⟩
    | false =>
     obtain ⟨SU,hSU⟩:∃ SU:Array Value,SU=#[L,K,P,KM,.int .i64 4,.int .i64 0]:=⟨_,rfl⟩
     have HLU:Hid ((Instr.loadAt 30 (.pointer (some ⟨gC,0,none⟩))).run Tryz.prog w9=.ok (.agg SU) w9):=by
      rw [hSU]
      exact run_loadAt_mid w9 gC 0 30 [L,K,P,KM,.int .i64 4,.int .i64 0] _ (fun j v hv=>(cell_of_row _ gC (0+j) _ _ _ RC9.out).trans (by
       rw [HCA.out.1]
       match j,hv with
       | 0,hv=>simp at hv;subst hv;rfl
       | 1,hv=>simp at hv;subst hv;rfl
       | 2,hv=>simp at hv;subst hv;rfl
       | 3,hv=>simp at hv;subst hv;rfl
       | 4,hv=>simp at hv;subst hv;rfl
       | 5,hv=>simp at hv;subst hv;rfl)) Tryz.underlying30 rfl (by show _=some 6;kernel_rfl)
     have hkk':kX=kY:=by have h:=HWHO.out;omega
     have HJ:=Lib.hid (judgeF_any l L K P KM S C KS w9 HC9.out X (r:Int) (s:Int) kX (by rw [← HNN.out];exact HKX.out) (by rw [hkk'];exact hwho) (by rw [hkk'];exact haw) haT hbT hbr hbs hlo hhi hFA hkd HRS.out.1 HRS.out.2 (by rw [← HTX.out.1];exact HBB.out) (htab.upd HU9.out))
     rw [← HXW.out,← hSU] at HJ
     clear hSU
     go_wp2_with (first | (refine wpList_load_atW (by rfl) 30 _ rfl gC 0 rfl SU HLU.out ?_) | (refine wpList_load_row rfl 48 _ rfl gE rfl _ XW _ _ RX9.out Tryz.underlying48 rfl HXWI.out ?_))
     refine HJ.out.mono ?_
     rintro e wA ⟨y,hy,rfl,hq⟩
     have UA:=Lib.hid (HU9.out.trans hq)
     have gy:(y != 0)=true:=by simpa using hy
     clear hq HJ HLU hy
     go_wp2_with fail
     go_ret
     exact ⟨rfl,UA.out⟩
theorem courtForged_u8 (l:List Int) {v:Value} (kd:Int) (q0 q1 q2 q3:Int) (w:World) (hv:RdO w v l) (hi:∀ x∈l,i64in x) (hl:l.length≤9223372036854775807) (hkd:0≤kd∧kd≤255) (h0:i64in q0) (h1:i64in q1) (h2:i64in q2) (h3:i64in q3) (htab:Tabs w) :
 Calls Tryz.prog 3 #[v,.int .u8 kd,.agg #[.int .i64 q0,.int .i64 q1,.int .i64 q2,.int .i64 q3]] w (TrueMk w):=by
 obtain ⟨k,rfl⟩:∃ k:Nat,kd=(k:Int):=⟨kd.toNat,by omega⟩
 exact courtForged_walk l v k q0 q1 q2 q3 w hv hi hl (by omega) h0 h1 h2 h3 htab
end Go.Proofs.YtmjlkkbbnkanpaaGreatDoor
