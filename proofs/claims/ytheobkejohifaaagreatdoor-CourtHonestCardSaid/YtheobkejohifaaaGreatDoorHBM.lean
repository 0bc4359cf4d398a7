/- The walk of CourtHonest. -/
import Derived.Test.YtheobkejohifaaaGreatDoorHAA
import Derived.Test.YtheobkejohifaaaGreatDoorHAT
import Derived.Test.YtheobkejohifaaaGreatDoorHAW
import Derived.Test.YtheobkejohifaaaGreatDoorHBG
import Derived.Test.YtheobkejohifaaaGreatDoorHBJ
import Derived.Test.YtheobkejohifaaaGreatDoorHBK
import Derived.Test.YtheobkejohifaaaGreatDoorHBI
import Derived.Test.YtheobkejohifaaaGreatDoorHBE
import Derived.Test.YtheobkejohifaaaGreatDoorHAO
import Derived.Test.YtheobkejohifaaaGreatDoorHBL
namespace Go.Proofs.YtheobkejohifaaaGreatDoor
open Go.RowKit
set_option maxRecDepth 100000
theorem pgu (q n:Int) (x:ByteArray):Tryz.prog.built 53 [(0,.int .i64 q),(1,.int .i64 5),(4,.int .i64 n),(5,.string x)]=some (evH q 5 n x).V.toArray:=by kernel_rfl
theorem pgv (q n:Int) (x:ByteArray):Tryz.prog.built 53 [(0,.int .i64 q),(1,.int .i64 4),(4,.int .i64 n),(5,.string x)]=some (evH q 4 n x).V.toArray:=by kernel_rfl
theorem ppa (x y:Int):Tryz.prog.built 43 [(0,.int .i64 x),(1,.int .i64 y)]=some #[.int .i64 x,.int .i64 y]:=by kernel_rfl
theorem pn0 {x v c z:Int} {W:World} {g:Nat} (h:W.heap[g]? =some (.cells #[.int .i64 x,.int .i64 v,.int .i64 c,.int .i64 z] 40 (0,0))):(Instr.loadAt 40 (.pointer (some ⟨g,0,none⟩))).run Tryz.prog W=.ok (.agg #[.int .i64 x,.int .i64 v,.int .i64 c,.int .i64 z]) W :=
 run_loadAt_mid W g 0 40 [.int .i64 x,.int .i64 v,.int .i64 c,.int .i64 z] _ (fun j u hu=>by rw [cell_of_row _ _ _ _ _ _ h,Nat.zero_add];simpa using hu) Tryz.underlying40 rfl (by show _=some 4;kernel_rfl)
theorem pbJ {R:Array Value} {T:TypeId} {fs:Array Field} (hu:Tryz.prog.underlying T=some (.struct fs)) (hi:(Tryz.prog.info? T).map (·.size)=some R.size) {g:Nat} {W:World} (h:W.heap[g]? =some (.cells R T (0,0))):(Instr.loadAt T (.pointer (some ⟨g,0,none⟩))).run Tryz.prog W=.ok (.agg R) W :=
 run_loadAt_mid W g 0 T R.toList _ (pbM (by simp) h) hu rfl (by rw [Array.length_toList];exact hi)
theorem pn1 (lo hi:Int) (F A:ByteArray):Tryz.prog.built 61 [(0,.int .i64 lo),(1,.int .i64 hi),(2,.string F),(3,.string A)]=some (dspG lo hi F A ⟨#[]⟩):=by kernel_rfl
theorem phg (lo hi:Int) (F A B:ByteArray):(Tryz.prog.info? 61).map (·.size)=some (dspG lo hi F A B).size:=by
 show _=some 5
 kernel_rfl
theorem pn2 (lo hi:Int) (F A B:ByteArray):(dspG lo hi F A B).all (·.oneCell')=true:=by simp [dspG,Value.oneCell']
theorem pqw (x:Nat) (hx:x≤255):(x:Int).tmod 9=((x % 9:Nat):Int):=by
 rw [Int.tmod_eq_emod_of_nonneg (by omega)]
 omega
def hev (kd who lo hi:Int) (a b:Hv) (F A:ByteArray):Array Value:=#[.int .i64 kd,.int .i64 who,.int .i64 a.who,.string a.T,.int .i64 a.r,.int .i64 a.s,.int .i64 b.who,.string b.T,.int .i64 b.r,.int .i64 b.s,.int .i64 lo,.int .i64 hi,.string F,.string A,.string ⟨#[]⟩,.int .i64 0,.int .i64 0,.int .i64 0,.int .i64 0]
theorem ppb (kd who lo hi:Int) (a b:Hv) (F A:ByteArray):Tryz.prog.built 69 [(0,.int .i64 kd),(1,.int .i64 who),(2,.agg a.V.toArray),(3,.agg b.V.toArray),(4,.agg (dspG lo hi F A ⟨#[]⟩))]=some (hev kd who lo hi a b F A):=by kernel_rfl
theorem pqx (kd who lo hi:Int) (a b:Hv) (F A:ByteArray):(Tryz.prog.info? 69).map (·.size)=some (hev kd who lo hi a b F A).size:=by
 show _=some 19
 kernel_rfl
theorem prk (kd who lo hi:Int) (a b:Hv) (F A:ByteArray):(hev kd who lo hi a b F A).all (·.oneCell')=true:=by simp [hev,Value.oneCell']
set_option maxHeartbeats 8000000 in
theorem peB (l:List Int) (v:Value) (a b0 b1 b2 b3:Nat) (w:World) (hv:RdO w v l) (hi:∀ x∈l,pab x) (hl:l.length≤9223372036854775807) (ha:a≤255) (h0:b0≤255) (h1:b1≤255) (h2:b2≤255) (h3:b3≤255) (htab:Tabs w) :
 Calls Tryz.prog 3 #[v,.int .u8 (a:Int),.agg #[.int .u8 (b0:Int),.int .u8 (b1:Int),.int .u8 (b2:Int),.int .u8 (b3:Int)]] w (pmL w):=by
 obtain ⟨gQ,hgQ⟩:∃ g,w.heap.size=g:=⟨_,rfl⟩
 obtain ⟨w0,hw0⟩:∃ W,w.alloc (.cells #[.int .u8 (b0:Int),.int .u8 (b1:Int),.int .u8 (b2:Int),.int .u8 (b3:Int)] 23)=W:=⟨_,rfl⟩
 have r0:=Lib.hid (show w0.heap[gQ]? =some (.cells #[.int .u8 (b0:Int),.int .u8 (b1:Int),.int .u8 (b2:Int),.int .u8 (b3:Int)] 23 (0,0)) by rw [← hgQ,← hw0];exact heap_alloc_new _ _)
 have u0:=Lib.hid (show Upd [] [] w w0 by rw [← hw0];exact (Upd.refl _ _).alloc _)
 have HSAN:=Lib.hid (piI w0 (htab.upd u0.out))
 have HMK:=Lib.hid (fun W (u:Upd [] [] w W)=>ple l v W (hv.upd u) hi hl)
 have HB:=Lib.hid (And.intro h0 (And.intro h1 (And.intro h2 h3)))
 have HTAB:=Lib.hid htab
 obtain ⟨N,hN⟩:∃ N,N=pax l:=⟨_,rfl⟩
 obtain ⟨k,hk⟩:∃ k,k=a % N:=⟨_,rfl⟩
 have hNp:0<N:=by rw [hN];unfold pax;omega
 have hkN:k<N:=by rw [hk];exact Nat.mod_lt _ hNp
 have hN4:N≤4:=by rw [hN];exact (pkE l).2
 have eA:IntKind.i64.wrap (a:Int)=(a:Int):=IntWalk.i64_in _ (by omega)
 have eK:(a:Int).tmod (N:Int)=(k:Int):=by rw [Int.tmod_eq_emod_of_nonneg (by omega),hk];simp
 have eKe:(a:Int) % (N:Int)=(k:Int):=by rw [hk];simp
 have eN0:¬ (N:Int)=0:=by omega
 have eN0':¬ N=0:=by omega
 have HNN:=Lib.hid hN
 obtain ⟨q0,hq0⟩:∃ q0,q0=b0 % 9:=⟨_,rfl⟩
 have hq9:q0≤8:=by omega
 have e0:(b0:Int).tmod 9=(q0:Int):=by rw [hq0];exact pqw b0 h0
 have e0e:(b0:Int) % 9=(q0:Int):=by omega
 have e0w:IntKind.u8.wrap (q0:Int)=(q0:Int):=by show (q0:Int) % 256=_;omega
 have e0i:IntKind.i64.wrap (q0:Int)=(q0:Int):=IntWalk.i64_in _ (by omega)
 clear hv hi hl ha h0 h1 h2 h3 htab hk hN hq0
 go_enter Tryz.func3,Tryz.ntmps3
 go_wp2_with fail
 refine HSAN.out.mono ?_
 rintro e w1 ⟨rfl,hq⟩
 have U1:=Lib.hid (u0.out.trans hq)
 have R1:=Lib.hid (paa r0.out hq)
 clear hq HSAN r0
 go_wp2_with fail
 refine (HMK.out w1 U1.out).mono ?_
 rintro e w2 ⟨L,K,P,KM,S,C,KS,HCR,rfl,hq⟩
 obtain ⟨CA,hCA⟩:∃ CA,CA=csV L K P KM S C KS:=⟨_,rfl⟩
 rw [← hCA]
 obtain ⟨HCI,HCO⟩:=pqY HCR.out CA hCA
 have HCZ:Hid ((#[.slice none 0 0,.slice none 0 0,.slice none 0 0,.slice none 0 0,.int .i64 0,.int .i64 0,.slice none 0 0,.slice none 0 0,.slice none 0 0,.slice none 0 0,.slice none 0 0,.slice none 0 0,.slice none 0 0]:Array Value).size=CA.size):=by rw [hCA];rfl
 obtain ⟨w3,Z3,W3,RC3,hq3⟩:=paC w2 34 #[.slice none 0 0,.slice none 0 0,.slice none 0 0,.slice none 0 0,.int .i64 0,.int .i64 0,.slice none 0 0,.slice none 0 0,.slice none 0 0,.slice none 0 0,.slice none 0 0,.slice none 0 0,.slice none 0 0] CA
 obtain ⟨gC,hgC⟩:∃ g,w2.heap.size=g:=⟨_,rfl⟩
 rw [hgC] at Z3 W3 RC3
 have U3:=Lib.hid ((U1.out.trans hq).trans hq3)
 have R3:=Lib.hid (paa (paa R1.out hq) hq3)
 have HC3:=Lib.hid (HCR.out.upd hq3)
 obtain ⟨gm,mc,hL,hgm,hmid,_⟩:=HC3.out.memb (k:=k) (by rw [← HNN.out];exact hkN)
 rw [← HNN.out] at hL
 have HL:=Lib.hid hL
 have cL:w3.cell? ⟨gC,0,none⟩=some (.slice (some ⟨gm,0,none⟩) N mc):=by rw [cell_of_row _ gC 0 _ _ _ RC3.out,hCA,← hL];rfl
 have HCA:=Lib.hid hCA
 clear hq hq3 HMK U1 R1 hCA hL
 go_upto_region 6 with (first | (refine wpList_store_rowAs rfl 34 _ _ rfl gC CA rfl rfl _ _ Z3.out HCI.out HCZ.out HCO.out w3 W3.out ?_))
 go_loopw [10,11,12,13] (fun al i _ _ wr=>∃ (n:Nat) (vs:List Hv),i=.int .i64 (n:Int)∧n≤6∧Hid (HonL l k q0 b1 (2 * n) vs)∧Hid (wr.ownsRow 0 48 4 al (2 * n) (pbn vs))∧Hid (Upd [] (foot al) w3 wr)) (fun _ i _ _ _=>6 - (intOf i).toNat)
 case atStart=>exact ⟨0,[],rfl,Nat.zero_le _,HonL.nil l k q0 b1,World.ownsRow_nil _ _ _ _,Upd.refl _ _⟩
 case round =>
  obtain ⟨n,vs,rfl,hn,HVS,HRW,HU⟩:=hrel
  skip
  by_cases hlt:n<6
  · skip
    have hup:Upd [] [] w3 wr:=HU.out.mono (fun _ h=>h) (fun _ h=>absurd h (by simp))
    have HUP:=Lib.hid hup
    have RCr:=Lib.hid (paa RC3.out hup)
    have Rr:=Lib.hid (paa R3.out hup)
    have HCr:=Lib.hid (HC3.out.upd hup)
    obtain ⟨gp,pc,gx,xn,xc,hP,hgp,cX,hx1,hx3,hgx,hxs⟩:=HCr.out.pts (k:=k) (by rw [← HNN.out];exact hkN)
    rw [← HNN.out] at hP
    have cP:wr.cell? ⟨gC,2,none⟩=some (.slice (some ⟨gp,0,none⟩) N pc):=by rw [cell_of_row _ gC 2 _ _ _ RCr.out,HCA.out,← hP];rfl
    obtain ⟨m,hm⟩:∃ m,m=n % xn:=⟨_,rfl⟩
    have hmx:m<xn:=by rw [hm];exact Nat.mod_lt _ hx1
    obtain ⟨x,hx0,hxS,cx⟩:=hxs m hmx
    have hs12:=(pfX l).sum
    have hx60:x≤60:=by omega
    have HXS:=Lib.hid (And.intro hx0 (And.intro hxS hx60))
    obtain ⟨t,ht⟩:∃ t,t=q0+n:=⟨_,rfl⟩
    have HT:=Lib.hid ht
    have eT:IntKind.i64.wrap ((q0:Int)+(n:Int))=(t:Int):=by rw [IntWalk.i64_in _ (by omega)];omega
    have eM:(n:Int).tmod (xn:Int)=(m:Int):=by rw [Int.tmod_eq_emod_of_nonneg (by omega),hm];simp
    have eMe:(n:Int) % (xn:Int)=(m:Int):=by rw [hm];simp
    have eX0:¬ (xn:Int)=0:=by omega
    have eX0':¬ xn=0:=by omega
    have hxnI:(m:Int)<(xn:Int):=by omega
    have hm0:(0:Int)≤(m:Int):=by omega
    have hk0:(0:Int)≤(k:Int):=by omega
    have hkI:(k:Int)<(N:Int):=by omega
    have hnI:(n:Int)<6:=by omega
    obtain ⟨d,hd⟩:∃ d,d=n % 2:=⟨_,rfl⟩
    have HD:=Lib.hid hd
    have eD:(n:Int).tmod 2=(d:Int):=by rw [Int.tmod_eq_emod_of_nonneg (by omega),hd];simp
    have eDe:(n:Int) % 2=(d:Int):=by rw [hd];simp
    obtain ⟨GV,hGV⟩:∃ GV,GV=grV L S C K P:=⟨_,rfl⟩
    have HAT:=Lib.hid (fun W (u:Upd [] [] wr W)=>pp9 l L S C K P W (HCr.out.upd u).made x hx60)
    rw [← hGV] at HAT
    have HK9:Hid (∀ W,Upd [] [] wr W→(Instr.loadAt 32 (.pointer (some ⟨gC,7,none⟩))).run Tryz.prog W=.ok (.agg GV) W∧W.cell? ⟨gx,m,none⟩=some (.int .i64 (x:Int))∧W.cell? ⟨gQ,0,none⟩=some (.int .u8 (b0:Int))):=fun W u=>by
     refine ⟨?_,(u.cell (p:=⟨gx,m,none⟩) hgx (by simp)).trans cx,cell_of_row _ gQ 0 _ _ _ (paa Rr.out u)⟩
     rw [hGV]
     exact run_loadAt_mid W gC 7 32 [L,S,C,K,P] _ (fun j v hv=>(cell_of_row _ gC (7+j) _ _ _ (paa RCr.out u)).trans (by
      rw [HCA.out]
      match j,hv with
      | 0,hv=>exact hv
      | 1,hv=>exact hv
      | 2,hv=>exact hv
      | 3,hv=>exact hv
      | 4,hv=>exact hv)) Tryz.underlying32 rfl (by show _=some 5;kernel_rfl)
    have HTI:Hid (pab (t:Int)):=by show pab _;unfold pab;omega
    have hxn1:1≤x∧x≤60:=⟨hx0,hx60⟩
    have HX1:=Lib.hid hxn1
    have ud0:Upd [] [] wr wr.drew:=(Upd.refl _ _).drew
    have HUW:=HU
    clear hup hP hgp hgx hxs hm hmx hx0 hxS hx60 hxn1 hd hGV ht hs12 HU
    go_upto_region 9 with (fail)
    refine @_root_.id ((∀ (y pv c z gP:Nat) (W:World),Hid (y=valN (pbm (needN (wsN l (pax l)).sum) (pax l)) x)→Hid (pv=prtV y (t:Int)∧c=prtC y (t:Int)∧z=prtZ y (t:Int))→Hid (y<1152921504606845789∧pv<2305843009213691579∧c<1152921504606845789∧z<1152921504606845789)→Hid (W.heap[gP]? =some (.cells #[.int .i64 (x:Int),.int .i64 (pv:Int),.int .i64 (c:Int),.int .i64 (z:Int)] 40 (0,0)))→Hid (Upd [] [] wr W)→Hid (wr.heap.size≤gP)→(?pj1:Nat→Nat→Nat→Nat→Nat→World→Prop) y pv c z gP W)→_) (fun hJ=>?mj1) ?jj1
    case mj1 =>
     refine wp_region_noPanic ?_
     refine wp_region_held_drew (S:=fun wp=>(Instr.loadAt 32 (.pointer (some ⟨gC,7,none⟩))).run Tryz.prog wp=.ok (.agg GV) wp∧wp.cell? ⟨gx,m,none⟩=some (.int .i64 (x:Int))∧wp.cell? ⟨gQ,0,none⟩=some (.int .u8 (b0:Int))) (by kernel_rfl) ?_ (fun hHeld=>?_)
     · exact HK9.out _ ud0
     refine tkY 0 hHeld ?_
     refine tkL 1 hHeld GV (fun w hSw=>hSw.1) ?_
     refine tkY 2 hHeld ?_
     refine tkY 3 hHeld ?_
     refine tkY 4 hHeld ?_
     refine tkY 5 hHeld ?_
     refine tkY 6 hHeld ?_
     refine tkY 7 hHeld ?_
     refine tkY 8 hHeld ?_
     refine tkY 10 hHeld ?_
     refine tkY 11 hHeld ?_
     refine tkY 12 hHeld ?_
     refine tkY 13 hHeld ?_
     refine tkY 14 hHeld ?_
     refine tkY 15 hHeld ?_
     refine tkA [9,17] ?_
     refine tkC (fun K hK=>?_) ?_
     · go_simp;refine (HAT.out _ ud0).mono ?_;rintro e wv1 ⟨y,HY,hy,rfl,hq⟩;have ud1:=ud0.trans hq;clear hq;go_wp2_with fail
       refine tkK hK (HK9.out _ ud1) fun hHeld=>?_
       clear hK K
       refine tkA [16,17] ?_
       refine tkC (fun K hK=>?_) ?_
       · go_simp;refine (pc4 x y (t:Int) _ HX1.out (by omega) HTI.out).mono ?_;rintro e wv2 ⟨pv,c,z,HVCZ,hv,hc,hz,rfl,hq⟩;have ud2:=ud1.trans hq;clear hq;go_wp2_with fail
         refine tkK hK (HK9.out _ ud2) fun hHeld=>?_
         clear hK K
         refine tk1 17 fun K hK=>?_
         go_simp;obtain ⟨gP,wv3,hgx,hwx,fP_3,hq⟩:=paw wv2 (.cells ptZ 40);have hgx':=hgx;simp only [ptZ] at hwx;rw [← hgx,← hwx];have bP:wr.heap.size≤gP:=(by have:=ud2.size;omega);have ud3:=ud2.trans hq;clear hgx hgx' hwx hq
         refine tkK hK (HK9.out _ ud3) fun hHeld=>?_
         clear hK K
         refine tk1 18 fun K hK=>?_
         rw [if_pos (by rfl)];refine wp_store_row 40 _ _ rfl gP #[.int .i64 (x:Int),.int .i64 (pv:Int),.int .i64 (c:Int),.int .i64 (z:Int)] rfl rfl _ _ fP_3.out (pcb _ _ _ _) rfl (by simp [Value.oneCell']) ?_;obtain ⟨wv4,hwx⟩:∃ W':World,W'=wv3.setRow gP #[.int .i64 (x:Int),.int .i64 (pv:Int),.int .i64 (c:Int),.int .i64 (z:Int)]:=⟨_,rfl⟩;have fP_4:Hid (wv4.heap[gP]? =some (.cells #[.int .i64 (x:Int),.int .i64 (pv:Int),.int .i64 (c:Int),.int .i64 (z:Int)] 40 (0,0))):=(by show _=_;rw [hwx];exact setRow_heap _ _ _ _ _ _ fP_3.out);have ud4:=ud3.setRowNew bP #[.int .i64 (x:Int),.int .i64 (pv:Int),.int .i64 (c:Int),.int .i64 (z:Int)];rw [← hwx] at ud4 ⊢;clear hwx
         refine tkK hK (HK9.out _ ud4) fun hHeld=>?_
         clear hK K
         refine wpAnyH_done (by kernel_rfl) ?_ _
         refine NoPanic.normal ?_
         exact hJ y pv c z gP wv4 HY HVCZ (Lib.hid ⟨hy,hv,hc,hz⟩) fP_4 (Lib.hid ud4) (Lib.hid bP)
       refine tkZ fun K hK=>?_
       go_simp;obtain ⟨gP,wv2,hgx,hwx,fP_2,hq⟩:=paw wv1 (.cells ptZ 40);have hgx':=hgx;simp only [ptZ] at hwx;rw [← hgx,← hwx];have bP:wr.heap.size≤gP:=(by have:=ud1.size;omega);have ud2:=ud1.trans hq;clear hgx hgx' hwx hq
       refine tkK hK (HK9.out _ ud2) fun hHeld=>?_
       clear hK K
       refine tk1 16 fun K hK=>?_
       go_simp;refine (pc4 x y (t:Int) _ HX1.out (by omega) HTI.out).mono ?_;rintro e wv3 ⟨pv,c,z,HVCZ,hv,hc,hz,rfl,hq⟩;have ud3:=ud2.trans hq;have fP_3:=Lib.hid (paa fP_2.out hq);clear hq;go_wp2_with fail
       refine tkK hK (HK9.out _ ud3) fun hHeld=>?_
       clear hK K
       refine tk1 18 fun K hK=>?_
       rw [if_pos (by rfl)];refine wp_store_row 40 _ _ rfl gP #[.int .i64 (x:Int),.int .i64 (pv:Int),.int .i64 (c:Int),.int .i64 (z:Int)] rfl rfl _ _ fP_3.out (pcb _ _ _ _) rfl (by simp [Value.oneCell']) ?_;obtain ⟨wv4,hwx⟩:∃ W':World,W'=wv3.setRow gP #[.int .i64 (x:Int),.int .i64 (pv:Int),.int .i64 (c:Int),.int .i64 (z:Int)]:=⟨_,rfl⟩;have fP_4:Hid (wv4.heap[gP]? =some (.cells #[.int .i64 (x:Int),.int .i64 (pv:Int),.int .i64 (c:Int),.int .i64 (z:Int)] 40 (0,0))):=(by show _=_;rw [hwx];exact setRow_heap _ _ _ _ _ _ fP_3.out);have ud4:=ud3.setRowNew bP #[.int .i64 (x:Int),.int .i64 (pv:Int),.int .i64 (c:Int),.int .i64 (z:Int)];rw [← hwx] at ud4 ⊢;clear hwx
       refine tkK hK (HK9.out _ ud4) fun hHeld=>?_
       clear hK K
       refine wpAnyH_done (by kernel_rfl) ?_ _
       refine NoPanic.normal ?_
       exact hJ y pv c z gP wv4 HY HVCZ (Lib.hid ⟨hy,hv,hc,hz⟩) fP_4 (Lib.hid ud4) (Lib.hid bP)
     refine tkZ fun K hK=>?_
     go_simp;obtain ⟨gP,wv1,hgx,hwx,fP_1,hq⟩:=paF wr (.cells ptZ 40);have hgx':=hgx;simp only [ptZ] at hwx;rw [← hgx,← hwx];have bP:wr.heap.size≤gP:=(by omega);have ud1:=hq;clear hgx hgx' hwx hq
     refine tkK hK (HK9.out _ ud1) fun hHeld=>?_
     clear hK K
     refine tk1 9 fun K hK=>?_
     go_simp;refine (HAT.out _ ud1).mono ?_;rintro e wv2 ⟨y,HY,hy,rfl,hq⟩;have ud2:=ud1.trans hq;have fP_2:=Lib.hid (paa fP_1.out hq);clear hq;go_wp2_with fail
     refine tkK hK (HK9.out _ ud2) fun hHeld=>?_
     clear hK K
     refine tk1 16 fun K hK=>?_
     go_simp;refine (pc4 x y (t:Int) _ HX1.out (by omega) HTI.out).mono ?_;rintro e wv3 ⟨pv,c,z,HVCZ,hv,hc,hz,rfl,hq⟩;have ud3:=ud2.trans hq;have fP_3:=Lib.hid (paa fP_2.out hq);clear hq;go_wp2_with fail
     refine tkK hK (HK9.out _ ud3) fun hHeld=>?_
     clear hK K
     refine tk1 18 fun K hK=>?_
     rw [if_pos (by rfl)];refine wp_store_row 40 _ _ rfl gP #[.int .i64 (x:Int),.int .i64 (pv:Int),.int .i64 (c:Int),.int .i64 (z:Int)] rfl rfl _ _ fP_3.out (pcb _ _ _ _) rfl (by simp [Value.oneCell']) ?_;obtain ⟨wv4,hwx⟩:∃ W':World,W'=wv3.setRow gP #[.int .i64 (x:Int),.int .i64 (pv:Int),.int .i64 (c:Int),.int .i64 (z:Int)]:=⟨_,rfl⟩;have fP_4:Hid (wv4.heap[gP]? =some (.cells #[.int .i64 (x:Int),.int .i64 (pv:Int),.int .i64 (c:Int),.int .i64 (z:Int)] 40 (0,0))):=(by show _=_;rw [hwx];exact setRow_heap _ _ _ _ _ _ fP_3.out);have ud4:=ud3.setRowNew bP #[.int .i64 (x:Int),.int .i64 (pv:Int),.int .i64 (c:Int),.int .i64 (z:Int)];rw [← hwx] at ud4 ⊢;clear hwx
     refine tkK hK (HK9.out _ ud4) fun hHeld=>?_
     clear hK K
     refine wpAnyH_done (by kernel_rfl) ?_ _
     refine NoPanic.normal ?_
     exact hJ y pv c z gP wv4 HY HVCZ (Lib.hid ⟨hy,hv,hc,hz⟩) fP_4 (Lib.hid ud4) (Lib.hid bP)
    intro y pv c z gP w9 HY HVCZ HVN fP9 U9 HGP
    skip
    have HD2:Hid (d<2):=by show d<2;rw [HD.out];omega
    rcases (by have:=HD2.out;omega:d=0∨d=1) with hd | hd <;> subst hd
    · skip
      obtain ⟨w10,hw10⟩:∃ W,W=w9:=⟨_,rfl⟩
      subst hw10
      have fP10:=fP9
      have U10:=U9
      have HHP:Hid (∀ T:List UInt8,T=Lib.itoa ((0:Nat):Int) ++ 32 :: pcO (x:Int) (pv:Int) (c:Int) (z:Int)→HonP l n (t:Int) T):=fun T hT=>by
       refine ⟨x,y,HX1.out.2,?_,fun _=>⟨HX1.out.1,HXS.out.2.1,HY.out⟩⟩
       rw [hT,HVCZ.out.1,HVCZ.out.2.1,HVCZ.out.2.2,← HD.out]
      have HPI:Hid (pab (x:Int)∧pab (pv:Int)∧pab (c:Int)∧pab (z:Int)):=by have h1:=HVN.out;have h2:=HX1.out;show _∧_;unfold pab;omega
      clear HVCZ HVN fP9 U9 HY
      have hgCl:=pag RC3.out
      have hgQl:=pag R3.out
      have hfl:∀ b,b∈foot u10→w3.heap.size≤b∧b<wr.heap.size:=fun b hb=>⟨by
       rcases HUW.out.new b hb with h | h
       · simp at h
       · exact h,paf HRW.out b hb⟩
      have HKB:Hid (∀ W,(∀ b,b=gC∨b=gQ∨b=gP→W.heap[b]? =w10.heap[b]?)→(Instr.loadAt 34 (.pointer (some ⟨gC,0,none⟩))).run Tryz.prog W=.ok (.agg CA) W∧W.cell? ⟨gQ,0,none⟩=some (.int .u8 (b0:Int))∧(Instr.loadAt 40 (.pointer (some ⟨gP,0,none⟩))).run Tryz.prog W=.ok (.agg #[.int .i64 (x:Int),.int .i64 (pv:Int),.int .i64 (c:Int),.int .i64 (z:Int)]) W):=fun W h =>
       ⟨pbJ Tryz.underlying34 HCI.out ((h gC (.inl rfl)).trans (paa RCr.out U10.out)),cell_of_row _ gQ 0 _ _ _ ((h gQ (.inr (.inl rfl))).trans (paa Rr.out U10.out)),pn0 ((h gP (.inr (.inr rfl))).trans fP10.out)⟩
      have hb10:∀ b,b=gC∨b=gQ∨b=gP→b<w10.heap.size∧b ∉ foot u10:=fun b hb=>by
       rcases hb with rfl | rfl | rfl
       · exact ⟨pag (paa RCr.out U10.out),fun h=>by have:=(hfl _ h).1;omega⟩
       · exact ⟨pag (paa Rr.out U10.out),fun h=>by have:=(hfl _ h).1;omega⟩
       · exact ⟨pag fP10.out,fun h=>by have:=(hfl _ h).2;have:=HGP.out;omega⟩
      have HK12:Hid (∀ W,Upd [] [] w10 W→(Instr.loadAt 34 (.pointer (some ⟨gC,0,none⟩))).run Tryz.prog W=.ok (.agg CA) W∧W.cell? ⟨gQ,0,none⟩=some (.int .u8 (b0:Int))∧(Instr.loadAt 40 (.pointer (some ⟨gP,0,none⟩))).run Tryz.prog W=.ok (.agg #[.int .i64 (x:Int),.int .i64 (pv:Int),.int .i64 (c:Int),.int .i64 (z:Int)]) W):=fun W u=>HKB.out W fun b hb=>u.block b (hb10 b hb).1 (by simp)
      have HKA:Hid (∀ W0 W al',Upd [] [] w10 W0→Upd (foot u10) (foot al') W0 W→(Instr.loadAt 34 (.pointer (some ⟨gC,0,none⟩))).run Tryz.prog W=.ok (.agg CA) W∧W.cell? ⟨gQ,0,none⟩=some (.int .u8 (b0:Int))∧(Instr.loadAt 40 (.pointer (some ⟨gP,0,none⟩))).run Tryz.prog W=.ok (.agg #[.int .i64 (x:Int),.int .i64 (pv:Int),.int .i64 (c:Int),.int .i64 (z:Int)]) W):=fun W0 W al' u v=>HKB.out W fun b hb=>(v.block b (Nat.lt_of_lt_of_le (hb10 b hb).1 u.size) (hb10 b hb).2).trans (u.block b (hb10 b hb).1 (by simp))
      obtain ⟨n2,hn2⟩:∃ n2,n2=2 * n:=⟨_,rfl⟩
      have HN2:=Lib.hid hn2
      have hn12:n2≤12:=by omega
      have e2n:IntKind.i64.wrap (2 * (n:Int))=(n2:Int):=by rw [IntWalk.i64_in _ (by omega)];omega
      have HEVT:Hid (∀ (TX:ByteArray) W,Upd [] [] w10 W→TX.size≤1000→HonP l n (t:Int) (bs TX)→∃ F:EvG,Hid (F=(((evH (n2:Int) 5 (t:Int) TX).from ((k+1:Nat):Int)).signed (secN k)))∧Hid (F.ok∧F.x.size≤1000000)∧Hid (∀ T,bs T=F.text→Hon l k q0 b1 (2 * n) ⟨F.h,T,F.r,F.s⟩)∧Calls Tryz.prog 9 #[.agg CA,.int .i64 (k:Int),.agg (evH (n2:Int) 5 (t:Int) TX).V.toArray] W (pjl F W)):=fun TX W u hz hp=>by
       have he:HonE l k q0 (2 * n) ((evH ((2 * n:Nat):Int) 5 ((q0+n:Nat):Int) TX).from ((k+1:Nat):Int)):=piy (by omega) hlt hq9 hz (by rw [← HT.out];exact hp)
       have ho:(evH (n2:Int) 5 (t:Int) TX).ok:=pgs TX (by unfold pab;omega) (by unfold pab;omega) HTI.out
       refine ⟨_,rfl,⟨EvG.signed_ok (EvG.from_ok ho (by unfold pab;omega)) _,by show TX.size≤_;omega⟩,fun T hT=>pdS (ev:=evH ((2 * n:Nat):Int) 5 ((q0+n:Nat):Int) TX) (by omega) he (by omega) (by rw [HN2.out,HT.out]) hT,?_⟩
       rw [HCA.out]
       exact pcD l L K P KM S C KS W (HCr.out.upd (U10.out.trans u)) k (by rw [← HNN.out];exact hkN) _ ho (by show TX.size≤_;omega)
      have HVOT:Hid (∀ (F:EvG) (EW:Array Value) W,F.ok→F.x.size≤1000000→EW=F.V.toArray→Upd [] [] w10 W→Calls Tryz.prog 8 #[.agg EW] W (MkVt F W)):=fun F EW W h1 h2 h3 u=>by
       rw [h3]
       exact pdO F h1 h2 W (HTAB.out.upd (U3.out.trans (HUP.out.trans (U10.out.trans u))))
      have HRO:Hid (∀ W,Upd [] [] w10 W→W.ownsRow 0 48 4 u10 n2 (pbn vs)):=fun W u=>by
       rw [HN2.out]
       exact pai HRW.out fun b hb=>(U10.out.trans u).block b (hfl b hb).2 (by simp)
      have HUA:Hid (∀ W,Upd [] [] w10 W→Upd [] (foot u10) w3 W):=fun W u=>⟨(HUP.out.trans (U10.out.trans u)).os,(HUP.out.trans (U10.out.trans u)).tape,(HUP.out.trans (U10.out.trans u)).output,(HUP.out.trans (U10.out.trans u)).size,(HUP.out.trans (U10.out.trans u)).block,fun b hb=>.inr (hfl b hb).1⟩
      have HDI:Hid (pab ((0:Nat):Int)):=by show pab _;unfold pab;omega
      have hl1:=itoa_len ((0:Nat):Int) HDI.out
      have hl2:=pfq (x:Int) (pv:Int) (c:Int) (z:Int) HPI.out.1 HPI.out.2.1 HPI.out.2.2.1 HPI.out.2.2.2
      have HBE:=Lib.hid (fun TX=>pgu (n2:Int) (t:Int) TX)
      have ud0:Upd [] [] w10 w10.drew:=(Upd.refl _ _).drew
      clear hfl hb10 hn2 hgCl hgQl
      go_upto_region 12 with (fail)
      refine @_root_.id ((∀ (s1 s2 T:ByteArray) (F:EvG) (EW:Array Value) (al':Value) (gB:Nat) (W:World),Hid (Hon l k q0 b1 (2 * n) ⟨F.h,T,F.r,F.s⟩)→Hid (W.ownsRow 0 48 4 al' (n2+1) (pbn (vs ++ [⟨F.h,T,F.r,F.s⟩])))→Hid (Upd [] (foot al') w3 W)→(?pj16:ByteArray→ByteArray→ByteArray→EvG→Array Value→Value→Nat→World→Prop) s1 s2 T F EW al' gB W)→_) (fun hJ=>?mj16) ?jj16
      case mj16 =>
       refine wp_region_noPanic ?_
       refine wp_region_held_drew (S:=fun wp=>(Instr.loadAt 34 (.pointer (some ⟨gC,0,none⟩))).run Tryz.prog wp=.ok (.agg CA) wp∧wp.cell? ⟨gQ,0,none⟩=some (.int .u8 (b0:Int))∧(Instr.loadAt 40 (.pointer (some ⟨gP,0,none⟩))).run Tryz.prog wp=.ok (.agg #[.int .i64 (x:Int),.int .i64 (pv:Int),.int .i64 (c:Int),.int .i64 (z:Int)]) wp) (by kernel_rfl) ?_ (fun hHeld=>?_)
       · exact HK12.out _ ud0
       refine tkY 0 hHeld ?_
       refine tkL 1 hHeld CA (fun w hSw=>hSw.1) ?_
       refine tkY 2 hHeld ?_
       refine tkY 3 hHeld ?_
       refine tkY 4 hHeld ?_
       refine tkY 5 hHeld ?_
       refine tkY 6 hHeld ?_
       refine tkY 7 hHeld ?_
       refine tkY 8 hHeld ?_
       refine tkY 9 hHeld ?_
       refine tkY 10 hHeld ?_
       refine tkY 11 hHeld ?_
       refine tkY 12 hHeld ?_
       refine wpAnyH_take (i:=15) (v:=.agg (#[.int .i64 (x:Int),.int .i64 (pv:Int),.int .i64 (c:Int),.int .i64 (z:Int)]:Array Value)) (by simp only [List.getElem?_toArray,List.getElem?_cons_succ,List.getElem?_cons_zero] <;> rfl) (by kernel_rfl) (by kernel_rfl) (by kernel_rfl) (fun _ _ _ h=>h) (pau (by rfl) _ _ rfl _ rfl (#[.int .i64 (x:Int),.int .i64 (pv:Int),.int .i64 (c:Int),.int .i64 (z:Int)]:Array Value) (fun w hSw=>hSw.2.2)) hHeld ?_
       try simp only [Act.put,List.setIfInBounds_toArray,List.set_cons_zero,List.set_cons_succ]
       refine tk1 13 fun K hK=>?_
       go_simp;refine (paL ((0:Nat):Int) _ HDI.out).mono ?_;rintro e wv1 ⟨s1,HS1,hs1,rfl,hq⟩;have ud1:=ud0.trans hq;clear hq;have t1:¬ 9223372036854775807<s1.size+1:=(by omega);go_wp2_with fail
       refine tkK hK (HK12.out _ ud1) fun hHeld=>?_
       clear hK K
       refine tkY 14 hHeld ?_
       refine tk1 16 fun K hK=>?_
       go_simp;refine (pgh (x:Int) (pv:Int) (c:Int) (z:Int) HPI.out.1 HPI.out.2.1 HPI.out.2.2.1 HPI.out.2.2.2 _).mono ?_;rintro e wv2 ⟨s2,HS2,hs2,rfl,hq⟩;have ud2:=ud1.trans hq;clear hq;have t2:¬ 9223372036854775807<s1.size+1+s2.size:=(by omega);go_wp2_with fail
       refine tkK hK (HK12.out _ ud2) fun hHeld=>?_
       clear hK K
       refine tkY 17 hHeld ?_
       refine wpAnyH_take (i:=18) (v:=.agg (evH (n2:Int) 5 (t:Int) (s1 ++ ByteArray.mk #[32] ++ s2)).V.toArray) (by simp only [List.getElem?_toArray,List.getElem?_cons_succ,List.getElem?_cons_zero] <;> rfl) (by kernel_rfl) (by kernel_rfl) (by kernel_rfl) (fun _ _ _ h=>h) (paX (by rfl) 53 _ rfl (evH (n2:Int) 5 (t:Int) (s1 ++ ByteArray.mk #[32] ++ s2)).V.toArray (Eq.trans (congrArg (fun z=>Tryz.prog.built 53 z) (by kernel_rfl)) (HBE.out _))) hHeld ?_
       try simp only [Act.put,List.setIfInBounds_toArray,List.set_cons_zero,List.set_cons_succ]
       refine tk1 19 fun K hK=>?_
       go_simp;have hbt:bs (s1 ++ ByteArray.mk #[32] ++ s2)=Lib.itoa ((0:Nat):Int) ++ 32 :: pcO (x:Int) (pv:Int) (c:Int) (z:Int):=(by rw [pae,pae,HS1.out,HS2.out];simp [bs]);have hzt:((s1 ++ ByteArray.mk #[32] ++ s2)).size≤1000:=(by rw [ByteArray.size_append,ByteArray.size_append];show s1.size+1+s2.size≤_;omega);obtain ⟨F,HF,HFO,HFH,hcall⟩:=HEVT.out (s1 ++ ByteArray.mk #[32] ++ s2) _ ud2 hzt (HHP.out _ hbt);refine hcall.mono ?_;rintro e wv3 ⟨EW,HEW,rfl,hq⟩;have ud3:=ud2.trans hq;clear hq;clear hcall hbt hzt;go_wp2_with fail
       refine tkK hK (HK12.out _ ud3) fun hHeld=>?_
       clear hK K
       refine tk1 20 fun K hK=>?_
       go_simp;refine (HVOT.out F EW _ HFO.out.1 HFO.out.2 HEW.out ud3).mono ?_;rintro e wv4 ⟨T,HTT,rfl,hq⟩;have ud4:=ud3.trans hq;clear hq;obtain ⟨al',wA,hrun,hown,hpa⟩:=pcR wv4 u10 n2 vs ⟨F.h,T,F.r,F.s⟩ (HRO.out _ ud4) (by omega);have HRUN:=Lib.hid hrun;have HOWN:=Lib.hid hown;have HUPA:=Lib.hid hpa;have HBU:=Lib.hid (pdR ⟨F.h,T,F.r,F.s⟩ wv4);clear hrun hown hpa;go_wp2_with fail
       refine tkK hK (HK12.out _ ud4) fun hHeld=>?_
       clear hK K
       refine tk1 21 fun K hK=>?_
       rw [if_pos (by rfl)];refine pdo 36 1 _ rfl _ _ (Eq.trans (congrArg (fun z=>(Instr.buildSlice 36 1 z).run Tryz.prog wv4) (by kernel_rfl)) HBU.out) ?_
       refine tkK hK (HK12.out _ (ud4.alloc _)) fun hHeld=>?_
       clear hK K
       refine tk1 22 fun K hK=>?_
       refine pav _ rfl _ _ _ _ rfl u10 (.slice (some ⟨wv4.heap.size,0,none⟩) 1 1) al' wA rfl rfl HRUN.out ?_
       refine tkK hK (HKA.out _ _ al' ud4 HUPA.out) fun hHeld=>?_
       clear hK K
       refine tkY 23 hHeld ?_
       refine wpAnyH_done (by kernel_rfl) ?_ _
       refine NoPanic.normal ?_
       obtain ⟨gB,hgB⟩:∃ g,wv4.heap.size=g:=⟨_,rfl⟩;rw [hgB];exact hJ s1 s2 T F EW al' gB wA (Lib.hid (HFH.out T HTT.out)) HOWN (Lib.hid ((HUA.out _ ud4).trans HUPA.out))
      intro s1 s2 T F EW al' gB w11 HH1 HR11 HU11
      skip
      have hup11:Upd [] [] w3 w11:=HU11.out.mono (fun _ h=>h) (fun _ h=>absurd h (by simp))
      have RC11:=Lib.hid (paa RC3.out hup11)
      obtain ⟨n3,hn3⟩:∃ n3,n3=n2+1:=⟨_,rfl⟩
      rw [← hn3] at HR11
      have e3n:IntKind.i64.wrap ((n2:Int)+1)=(n3:Int):=by rw [IntWalk.i64_in _ (by omega)];omega
      obtain ⟨HS,hHS⟩:∃ HS:ByteArray,HS=⟨#[104,97,115,104]⟩:=⟨_,rfl⟩
      obtain ⟨EB,hEB⟩:∃ EB,EB=evH (n3:Int) 4 (n:Int) HS:=⟨_,rfl⟩
      obtain ⟨BV,hBV⟩:∃ BV,BV=EB.V.toArray:=⟨_,rfl⟩
      have HBB:Hid (Tryz.prog.built 53 [(0,.int .i64 (n3:Int)),(1,.int .i64 4),(4,.int .i64 (n:Int)),(5,.string ⟨#[104,97,115,104]⟩)]=some BV):=by show _=_;rw [hBV,hEB,hHS];exact pgv _ _ _
      have hbo:EB.ok:=by rw [hEB];exact pgs HS (by unfold pab;omega) (by unfold pab;omega) (by unfold pab;omega)
      have hbz:EB.x.size≤1000000:=by rw [hEB,hHS];exact (by decide:(ByteArray.mk #[104,97,115,104]).size≤1000000)
      obtain ⟨F2,hF2⟩:∃ F2,F2=(EB.from ((k+1:Nat):Int)).signed (secN k):=⟨_,rfl⟩
      have HEV2:Hid (Calls Tryz.prog 9 #[.agg CA,.int .i64 (k:Int),.agg BV] w11 (pjl F2 w11)):=by
       show Calls _ _ _ _ _
       rw [HCA.out,hBV,hF2]
       exact pcD l L K P KM S C KS w11 (HC3.out.upd hup11) k (by rw [← HNN.out];exact hkN) EB hbo hbz
      have hfo:F2.ok:=by rw [hF2];exact EvG.signed_ok (EvG.from_ok hbo (by unfold pab;omega)) _
      have hfz:F2.x.size≤1000000:=by rw [hF2];exact hbz
      have HHN2:Hid (∀ T,bs T=F2.text→Hon l k q0 b1 (2 * n+1) ⟨F2.h,T,F2.r,F2.s⟩):=fun T hT=>pdS (ev:=evH ((2 * n+1:Nat):Int) 4 (n:Int) HS) (by omega) (piz (by omega) hlt (by rw [hHS];rfl)) (by omega) (by rw [hF2,hEB,hn3,HN2.out]) hT
      have HVO2:Hid (∀ (EW:Array Value) W,EW=F2.V.toArray→Upd [] [] w11 W→Calls Tryz.prog 8 #[.agg EW] W (MkVt F2 W)):=fun EW W h3 u=>by
       rw [h3]
       exact pdO F2 hfo hfz W (HTAB.out.upd (U3.out.trans (hup11.trans u)))
      have HVS1:=Lib.hid (HVS.out.snoc HH1.out)
      have HN3:=Lib.hid hn3
      clear hup11 hn3 hHS hEB hBV hbo hbz hF2 hfo hfz HH1 HEVT HVOT HK12 HKB HKA HRO HUA HBE fP10 U10 HHP HPI hl1 hl2 HDI HVS HRW
      go_wp2_with (first | (refine wpList_load_row rfl 34 _ rfl gC rfl _ CA _ _ RC11.out Tryz.underlying34 rfl HCI.out ?_) | (refine wpList_buildTo rfl 53 _ rfl _ rfl BV (Eq.trans (congrArg (fun z=>Tryz.prog.built 53 z) (by kernel_rfl)) HBB.out) ?_))
      refine HEV2.out.mono ?_
      rintro e w12 ⟨EW2,HEW2,rfl,hq⟩
      have U12:=Lib.hid hq
      clear hq HEV2
      go_wp2_with fail
      refine (HVO2.out EW2 w12 HEW2.out U12.out).mono ?_
      rintro e w13 ⟨T2,HT2,rfl,hq⟩
      have U13:=Lib.hid (U12.out.trans hq)
      obtain ⟨al2,wB,hrun,hown,hpa⟩:=pcR w13 al' n3 (vs ++ [⟨F.h,T,F.r,F.s⟩]) ⟨F2.h,T2,F2.r,F2.s⟩ (pai HR11.out fun b hb=>U13.out.block b (paf HR11.out b hb) (by simp)) (by have:=HN3.out;omega)
      have HRUN:=Lib.hid hrun
      have HBU:=Lib.hid (pdR ⟨F2.h,T2,F2.r,F2.s⟩ w13)
      have HFIN:Hid (HonL l k q0 b1 (2 * (n+1)) (vs ++ [⟨F.h,T,F.r,F.s⟩] ++ [⟨F2.h,T2,F2.r,F2.s⟩])∧wB.ownsRow 0 48 4 al2 (2 * (n+1)) (pbn (vs ++ [⟨F.h,T,F.r,F.s⟩] ++ [⟨F2.h,T2,F2.r,F2.s⟩]))∧Upd [] (foot al2) w3 wB):=by
       have e2:n3+1=2 * (n+1):=by have:=HN3.out;have:=HN2.out;omega
       refine ⟨?_,?_,(HU11.out.trans (U13.out.widen (K:=foot al') (by simp))).trans hpa⟩
       · exact HVS1.out.snoc (HHN2.out T2 HT2.out)
       · rw [← e2];exact hown
      clear hrun hown hpa hq HVO2 HHN2 HVS1 HR11 HU11
      go_wp2_with (first | (refine wpList_buildRun rfl 36 1 _ rfl _ _ (Eq.trans (congrArg (fun z=>(Instr.buildSlice 36 1 z).run Tryz.prog w13) (by kernel_rfl)) HBU.out) ?_) | (refine wpList_append_run _ rfl _ _ _ _ rfl _ _ al2 wB rfl rfl HRUN.out ?_))
      exact ⟨⟨n+1,_,by go_num,by omega,HFIN.out.1,HFIN.out.2.1,HFIN.out.2.2⟩,by first | (simp [intOf];done) | (simp [intOf];omega)⟩
    · skip
      have HVC1:=Lib.hid (show (b1:Int)=((b1:Nat):Int) from rfl)
      have b1i:IntKind.i64.wrap (b1:Int)=(b1:Int):=IntWalk.i64_in _ (by have:=HB.out.2.1;omega)
      have hb1:b1<1152921504606845789:=by have:=HB.out.2.1;omega
      have HK11:Hid (∀ W,Upd [] [] w9 W→W.cell? ⟨gx,m,none⟩=some (.int .i64 (x:Int))∧W.cell? ⟨gQ,1,none⟩=some (.int .u8 (b1:Int))∧W.cell? ⟨gQ,0,none⟩=some (.int .u8 (b0:Int))):=fun W u=>by
       have h:=HK9.out W (U9.out.trans u)
       exact ⟨h.2.1,cell_of_row _ gQ 1 _ _ _ (paa Rr.out (U9.out.trans u)),h.2.2⟩
      have ud0:Upd [] [] w9 w9.drew:=(Upd.refl _ _).drew
      have HSB:=Lib.hid (ppa (x:Int) (b1:Int))
      clear HVC1
      go_upto_region 11 with (fail)
      refine @_root_.id ((∀ (pv2 c2 z2:Nat) (W:World),Hid (pv2=prtV b1 (t:Int)∧c2=prtC b1 (t:Int)∧z2=prtZ b1 (t:Int))→Hid (pv2<2305843009213691579∧c2<1152921504606845789∧z2<1152921504606845789)→Hid (W.heap[gP]? =some (.cells #[.int .i64 (x:Int),.int .i64 (pv2:Int),.int .i64 (c2:Int),.int .i64 (z2:Int)] 40 (0,0)))→Hid (Upd [] [] wr W)→(?pj32:Nat→Nat→Nat→World→Prop) pv2 c2 z2 W)→_) (fun hJ=>?mj32) ?jj32
      case mj32 =>
       refine wp_region_noPanic ?_
       refine wp_region_held_drew (S:=fun wp=>wp.cell? ⟨gx,m,none⟩=some (.int .i64 (x:Int))∧wp.cell? ⟨gQ,1,none⟩=some (.int .u8 (b1:Int))∧wp.cell? ⟨gQ,0,none⟩=some (.int .u8 (b0:Int))) (by kernel_rfl) ?_ (fun hHeld=>?_)
       · exact HK11.out _ ud0
       refine tkY 0 hHeld ?_
       refine tkY 1 hHeld ?_
       refine tkY 2 hHeld ?_
       refine tkY 3 hHeld ?_
       refine tkY 4 hHeld ?_
       refine tkY 5 hHeld ?_
       refine tkY 6 hHeld ?_
       refine tkY 7 hHeld ?_
       refine tkY 8 hHeld ?_
       refine tkY 9 hHeld ?_
       refine wpAnyH_take (i:=10) (v:=.agg #[.int .i64 (x:Int),.int .i64 (b1:Int)]) (by simp only [List.getElem?_toArray,List.getElem?_cons_succ,List.getElem?_cons_zero] <;> rfl) (by kernel_rfl) (by kernel_rfl) (by kernel_rfl) (fun _ _ _ h=>h) (paX (by rfl) 43 _ rfl #[.int .i64 (x:Int),.int .i64 (b1:Int)] (Eq.trans (congrArg (fun z=>Tryz.prog.built 43 z) (by kernel_rfl)) HSB.out)) hHeld ?_
       try simp only [Act.put,List.setIfInBounds_toArray,List.set_cons_zero,List.set_cons_succ]
       refine tkY 11 hHeld ?_
       refine tkY 12 hHeld ?_
       refine tkY 13 hHeld ?_
       refine tkY 14 hHeld ?_
       refine tkY 15 hHeld ?_
       refine tkY 16 hHeld ?_
       refine tk1 17 fun K hK=>?_
       go_simp;refine (pc4 x b1 (t:Int) _ HX1.out (by omega) HTI.out).mono ?_;rintro e wv1 ⟨pv2,c2,z2,HVCZ2,hv2,hc2,hz2,rfl,hq⟩;have ud1:=ud0.trans hq;have fP_1:=Lib.hid (paa fP9.out ud1);clear hq;go_wp2_with fail
       refine tkK hK (HK11.out _ ud1) fun hHeld=>?_
       clear hK K
       refine tk1 18 fun K hK=>?_
       rw [if_pos (by rfl)];refine wp_store_row 40 _ _ rfl gP #[.int .i64 (x:Int),.int .i64 (pv2:Int),.int .i64 (c2:Int),.int .i64 (z2:Int)] rfl rfl _ _ fP_1.out (pcb _ _ _ _) rfl (by simp [Value.oneCell']) ?_;obtain ⟨wv2,hwx⟩:∃ W':World,W'=wv1.setRow gP #[.int .i64 (x:Int),.int .i64 (pv2:Int),.int .i64 (c2:Int),.int .i64 (z2:Int)]:=⟨_,rfl⟩;have fP_2:Hid (wv2.heap[gP]? =some (.cells #[.int .i64 (x:Int),.int .i64 (pv2:Int),.int .i64 (c2:Int),.int .i64 (z2:Int)] 40 (0,0))):=(by show _=_;rw [hwx];exact setRow_heap _ _ _ _ _ _ fP_1.out);have u2:=(U9.out.trans ud1).setRowNew HGP.out #[.int .i64 (x:Int),.int .i64 (pv2:Int),.int .i64 (c2:Int),.int .i64 (z2:Int)];have q2:wv2.cell? ⟨gx,m,none⟩=some (.int .i64 (x:Int))∧wv2.cell? ⟨gQ,1,none⟩=some (.int .u8 (b1:Int))∧wv2.cell? ⟨gQ,0,none⟩=some (.int .u8 (b0:Int)):=(by rw [hwx];have h:=HK9.out _ u2;exact ⟨h.2.1,cell_of_row _ gQ 1 _ _ _ (paa Rr.out u2),h.2.2⟩);rw [← hwx] at u2 ⊢;clear hwx
       refine tkK hK (q2) fun hHeld=>?_
       clear hK K
       refine wpAnyH_done (by kernel_rfl) ?_ _
       refine NoPanic.normal ?_
       exact hJ pv2 c2 z2 wv2 HVCZ2 (Lib.hid ⟨hv2,hc2,hz2⟩) fP_2 (Lib.hid u2)
      intro pv2 c2 z2 w10 HVCZ2 HVN2 fP10 U10
      skip
      have HHP:Hid (∀ T:List UInt8,T=Lib.itoa ((1:Nat):Int) ++ 32 :: pcO (x:Int) (pv2:Int) (c2:Int) (z2:Int)→HonP l n (t:Int) T):=fun T hT=>by
       refine ⟨x,b1,HX1.out.2,?_,fun h=>?_⟩
       · rw [hT,HVCZ2.out.1,HVCZ2.out.2.1,HVCZ2.out.2.2,← HD.out]
       · have:=HD.out;omega
      have HPI:Hid (pab (x:Int)∧pab (pv2:Int)∧pab (c2:Int)∧pab (z2:Int)):=by have h1:=HVN2.out;have h2:=HX1.out;show _∧_;unfold pab;omega
      clear HVCZ HVN fP9 HVCZ2 HVN2 HY HSB HK11
      obtain ⟨pv,hpv⟩:∃ pv,pv=pv2:=⟨_,rfl⟩
      subst hpv
      have hgCl:=pag RC3.out
      have hgQl:=pag R3.out
      have hfl:∀ b,b∈foot u10→w3.heap.size≤b∧b<wr.heap.size:=fun b hb=>⟨by
       rcases HUW.out.new b hb with h | h
       · simp at h
       · exact h,paf HRW.out b hb⟩
      have HKB:Hid (∀ W,(∀ b,b=gC∨b=gQ∨b=gP→W.heap[b]? =w10.heap[b]?)→(Instr.loadAt 34 (.pointer (some ⟨gC,0,none⟩))).run Tryz.prog W=.ok (.agg CA) W∧W.cell? ⟨gQ,0,none⟩=some (.int .u8 (b0:Int))∧(Instr.loadAt 40 (.pointer (some ⟨gP,0,none⟩))).run Tryz.prog W=.ok (.agg #[.int .i64 (x:Int),.int .i64 (pv:Int),.int .i64 (c2:Int),.int .i64 (z2:Int)]) W):=fun W h =>
       ⟨pbJ Tryz.underlying34 HCI.out ((h gC (.inl rfl)).trans (paa RCr.out U10.out)),cell_of_row _ gQ 0 _ _ _ ((h gQ (.inr (.inl rfl))).trans (paa Rr.out U10.out)),pn0 ((h gP (.inr (.inr rfl))).trans fP10.out)⟩
      have hb10:∀ b,b=gC∨b=gQ∨b=gP→b<w10.heap.size∧b ∉ foot u10:=fun b hb=>by
       rcases hb with rfl | rfl | rfl
       · exact ⟨pag (paa RCr.out U10.out),fun h=>by have:=(hfl _ h).1;omega⟩
       · exact ⟨pag (paa Rr.out U10.out),fun h=>by have:=(hfl _ h).1;omega⟩
       · exact ⟨pag fP10.out,fun h=>by have:=(hfl _ h).2;have:=HGP.out;omega⟩
      have HK12:Hid (∀ W,Upd [] [] w10 W→(Instr.loadAt 34 (.pointer (some ⟨gC,0,none⟩))).run Tryz.prog W=.ok (.agg CA) W∧W.cell? ⟨gQ,0,none⟩=some (.int .u8 (b0:Int))∧(Instr.loadAt 40 (.pointer (some ⟨gP,0,none⟩))).run Tryz.prog W=.ok (.agg #[.int .i64 (x:Int),.int .i64 (pv:Int),.int .i64 (c2:Int),.int .i64 (z2:Int)]) W):=fun W u=>HKB.out W fun b hb=>u.block b (hb10 b hb).1 (by simp)
      have HKA:Hid (∀ W0 W al',Upd [] [] w10 W0→Upd (foot u10) (foot al') W0 W→(Instr.loadAt 34 (.pointer (some ⟨gC,0,none⟩))).run Tryz.prog W=.ok (.agg CA) W∧W.cell? ⟨gQ,0,none⟩=some (.int .u8 (b0:Int))∧(Instr.loadAt 40 (.pointer (some ⟨gP,0,none⟩))).run Tryz.prog W=.ok (.agg #[.int .i64 (x:Int),.int .i64 (pv:Int),.int .i64 (c2:Int),.int .i64 (z2:Int)]) W):=fun W0 W al' u v=>HKB.out W fun b hb=>(v.block b (Nat.lt_of_lt_of_le (hb10 b hb).1 u.size) (hb10 b hb).2).trans (u.block b (hb10 b hb).1 (by simp))
      obtain ⟨n2,hn2⟩:∃ n2,n2=2 * n:=⟨_,rfl⟩
      have HN2:=Lib.hid hn2
      have hn12:n2≤12:=by omega
      have e2n:IntKind.i64.wrap (2 * (n:Int))=(n2:Int):=by rw [IntWalk.i64_in _ (by omega)];omega
      have HEVT:Hid (∀ (TX:ByteArray) W,Upd [] [] w10 W→TX.size≤1000→HonP l n (t:Int) (bs TX)→∃ F:EvG,Hid (F=(((evH (n2:Int) 5 (t:Int) TX).from ((k+1:Nat):Int)).signed (secN k)))∧Hid (F.ok∧F.x.size≤1000000)∧Hid (∀ T,bs T=F.text→Hon l k q0 b1 (2 * n) ⟨F.h,T,F.r,F.s⟩)∧Calls Tryz.prog 9 #[.agg CA,.int .i64 (k:Int),.agg (evH (n2:Int) 5 (t:Int) TX).V.toArray] W (pjl F W)):=fun TX W u hz hp=>by
       have he:HonE l k q0 (2 * n) ((evH ((2 * n:Nat):Int) 5 ((q0+n:Nat):Int) TX).from ((k+1:Nat):Int)):=piy (by omega) hlt hq9 hz (by rw [← HT.out];exact hp)
       have ho:(evH (n2:Int) 5 (t:Int) TX).ok:=pgs TX (by unfold pab;omega) (by unfold pab;omega) HTI.out
       refine ⟨_,rfl,⟨EvG.signed_ok (EvG.from_ok ho (by unfold pab;omega)) _,by show TX.size≤_;omega⟩,fun T hT=>pdS (ev:=evH ((2 * n:Nat):Int) 5 ((q0+n:Nat):Int) TX) (by omega) he (by omega) (by rw [HN2.out,HT.out]) hT,?_⟩
       rw [HCA.out]
       exact pcD l L K P KM S C KS W (HCr.out.upd (U10.out.trans u)) k (by rw [← HNN.out];exact hkN) _ ho (by show TX.size≤_;omega)
      have HVOT:Hid (∀ (F:EvG) (EW:Array Value) W,F.ok→F.x.size≤1000000→EW=F.V.toArray→Upd [] [] w10 W→Calls Tryz.prog 8 #[.agg EW] W (MkVt F W)):=fun F EW W h1 h2 h3 u=>by
       rw [h3]
       exact pdO F h1 h2 W (HTAB.out.upd (U3.out.trans (HUP.out.trans (U10.out.trans u))))
      have HRO:Hid (∀ W,Upd [] [] w10 W→W.ownsRow 0 48 4 u10 n2 (pbn vs)):=fun W u=>by
       rw [HN2.out]
       exact pai HRW.out fun b hb=>(U10.out.trans u).block b (hfl b hb).2 (by simp)
      have HUA:Hid (∀ W,Upd [] [] w10 W→Upd [] (foot u10) w3 W):=fun W u=>⟨(HUP.out.trans (U10.out.trans u)).os,(HUP.out.trans (U10.out.trans u)).tape,(HUP.out.trans (U10.out.trans u)).output,(HUP.out.trans (U10.out.trans u)).size,(HUP.out.trans (U10.out.trans u)).block,fun b hb=>.inr (hfl b hb).1⟩
      have HDI:Hid (pab ((1:Nat):Int)):=by show pab _;unfold pab;omega
      have hl1:=itoa_len ((1:Nat):Int) HDI.out
      have hl2:=pfq (x:Int) (pv:Int) (c2:Int) (z2:Int) HPI.out.1 HPI.out.2.1 HPI.out.2.2.1 HPI.out.2.2.2
      have HBE:=Lib.hid (fun TX=>pgu (n2:Int) (t:Int) TX)
      have ud0:Upd [] [] w10 w10.drew:=(Upd.refl _ _).drew
      clear hfl hb10 hn2 hgCl hgQl
      go_upto_region 12 with (fail)
      refine @_root_.id ((∀ (s1 s2 T:ByteArray) (F:EvG) (EW:Array Value) (al':Value) (gB:Nat) (W:World),Hid (Hon l k q0 b1 (2 * n) ⟨F.h,T,F.r,F.s⟩)→Hid (W.ownsRow 0 48 4 al' (n2+1) (pbn (vs ++ [⟨F.h,T,F.r,F.s⟩])))→Hid (Upd [] (foot al') w3 W)→(?pj49:ByteArray→ByteArray→ByteArray→EvG→Array Value→Value→Nat→World→Prop) s1 s2 T F EW al' gB W)→_) (fun hJ=>?mj49) ?jj49
      case mj49 =>
       refine wp_region_noPanic ?_
       refine wp_region_held_drew (S:=fun wp=>(Instr.loadAt 34 (.pointer (some ⟨gC,0,none⟩))).run Tryz.prog wp=.ok (.agg CA) wp∧wp.cell? ⟨gQ,0,none⟩=some (.int .u8 (b0:Int))∧(Instr.loadAt 40 (.pointer (some ⟨gP,0,none⟩))).run Tryz.prog wp=.ok (.agg #[.int .i64 (x:Int),.int .i64 (pv:Int),.int .i64 (c2:Int),.int .i64 (z2:Int)]) wp) (by kernel_rfl) ?_ (fun hHeld=>?_)
       · exact HK12.out _ ud0
       refine tkY 0 hHeld ?_
       refine tkL 1 hHeld CA (fun w hSw=>hSw.1) ?_
       refine tkY 2 hHeld ?_
       refine tkY 3 hHeld ?_
       refine tkY 4 hHeld ?_
       refine tkY 5 hHeld ?_
       refine tkY 6 hHeld ?_
       refine tkY 7 hHeld ?_
       refine tkY 8 hHeld ?_
       refine tkY 9 hHeld ?_
       refine tkY 10 hHeld ?_
       refine tkY 11 hHeld ?_
       refine tkY 12 hHeld ?_
       refine wpAnyH_take (i:=15) (v:=.agg (#[.int .i64 (x:Int),.int .i64 (pv:Int),.int .i64 (c2:Int),.int .i64 (z2:Int)]:Array Value)) (by simp only [List.getElem?_toArray,List.getElem?_cons_succ,List.getElem?_cons_zero] <;> rfl) (by kernel_rfl) (by kernel_rfl) (by kernel_rfl) (fun _ _ _ h=>h) (pau (by rfl) _ _ rfl _ rfl (#[.int .i64 (x:Int),.int .i64 (pv:Int),.int .i64 (c2:Int),.int .i64 (z2:Int)]:Array Value) (fun w hSw=>hSw.2.2)) hHeld ?_
       try simp only [Act.put,List.setIfInBounds_toArray,List.set_cons_zero,List.set_cons_succ]
       refine tk1 13 fun K hK=>?_
       go_simp;refine (paL ((1:Nat):Int) _ HDI.out).mono ?_;rintro e wv1 ⟨s1,HS1,hs1,rfl,hq⟩;have ud1:=ud0.trans hq;clear hq;have t1:¬ 9223372036854775807<s1.size+1:=(by omega);go_wp2_with fail
       refine tkK hK (HK12.out _ ud1) fun hHeld=>?_
       clear hK K
       refine tkY 14 hHeld ?_
       refine tk1 16 fun K hK=>?_
       go_simp;refine (pgh (x:Int) (pv:Int) (c2:Int) (z2:Int) HPI.out.1 HPI.out.2.1 HPI.out.2.2.1 HPI.out.2.2.2 _).mono ?_;rintro e wv2 ⟨s2,HS2,hs2,rfl,hq⟩;have ud2:=ud1.trans hq;clear hq;have t2:¬ 9223372036854775807<s1.size+1+s2.size:=(by omega);go_wp2_with fail
       refine tkK hK (HK12.out _ ud2) fun hHeld=>?_
       clear hK K
       refine tkY 17 hHeld ?_
       refine wpAnyH_take (i:=18) (v:=.agg (evH (n2:Int) 5 (t:Int) (s1 ++ ByteArray.mk #[32] ++ s2)).V.toArray) (by simp only [List.getElem?_toArray,List.getElem?_cons_succ,List.getElem?_cons_zero] <;> rfl) (by kernel_rfl) (by kernel_rfl) (by kernel_rfl) (fun _ _ _ h=>h) (paX (by rfl) 53 _ rfl (evH (n2:Int) 5 (t:Int) (s1 ++ ByteArray.mk #[32] ++ s2)).V.toArray (Eq.trans (congrArg (fun z=>Tryz.prog.built 53 z) (by kernel_rfl)) (HBE.out _))) hHeld ?_
       try simp only [Act.put,List.setIfInBounds_toArray,List.set_cons_zero,List.set_cons_succ]
       refine tk1 19 fun K hK=>?_
       go_simp;have hbt:bs (s1 ++ ByteArray.mk #[32] ++ s2)=Lib.itoa ((1:Nat):Int) ++ 32 :: pcO (x:Int) (pv:Int) (c2:Int) (z2:Int):=(by rw [pae,pae,HS1.out,HS2.out];simp [bs]);have hzt:((s1 ++ ByteArray.mk #[32] ++ s2)).size≤1000:=(by rw [ByteArray.size_append,ByteArray.size_append];show s1.size+1+s2.size≤_;omega);obtain ⟨F,HF,HFO,HFH,hcall⟩:=HEVT.out (s1 ++ ByteArray.mk #[32] ++ s2) _ ud2 hzt (HHP.out _ hbt);refine hcall.mono ?_;rintro e wv3 ⟨EW,HEW,rfl,hq⟩;have ud3:=ud2.trans hq;clear hq;clear hcall hbt hzt;go_wp2_with fail
       refine tkK hK (HK12.out _ ud3) fun hHeld=>?_
       clear hK K
       refine tk1 20 fun K hK=>?_
       go_simp;refine (HVOT.out F EW _ HFO.out.1 HFO.out.2 HEW.out ud3).mono ?_;rintro e wv4 ⟨T,HTT,rfl,hq⟩;have ud4:=ud3.trans hq;clear hq;obtain ⟨al',wA,hrun,hown,hpa⟩:=pcR wv4 u10 n2 vs ⟨F.h,T,F.r,F.s⟩ (HRO.out _ ud4) (by omega);have HRUN:=Lib.hid hrun;have HOWN:=Lib.hid hown;have HUPA:=Lib.hid hpa;have HBU:=Lib.hid (pdR ⟨F.h,T,F.r,F.s⟩ wv4);clear hrun hown hpa;go_wp2_with fail
       refine tkK hK (HK12.out _ ud4) fun hHeld=>?_
       clear hK K
       refine tk1 21 fun K hK=>?_
       rw [if_pos (by rfl)];refine pdo 36 1 _ rfl _ _ (Eq.trans (congrArg (fun z=>(Instr.buildSlice 36 1 z).run Tryz.prog wv4) (by kernel_rfl)) HBU.out) ?_
       refine tkK hK (HK12.out _ (ud4.alloc _)) fun hHeld=>?_
       clear hK K
       refine tk1 22 fun K hK=>?_
       refine pav _ rfl _ _ _ _ rfl u10 (.slice (some ⟨wv4.heap.size,0,none⟩) 1 1) al' wA rfl rfl HRUN.out ?_
       refine tkK hK (HKA.out _ _ al' ud4 HUPA.out) fun hHeld=>?_
       clear hK K
       refine tkY 23 hHeld ?_
       refine wpAnyH_done (by kernel_rfl) ?_ _
       refine NoPanic.normal ?_
       obtain ⟨gB,hgB⟩:∃ g,wv4.heap.size=g:=⟨_,rfl⟩;rw [hgB];exact hJ s1 s2 T F EW al' gB wA (Lib.hid (HFH.out T HTT.out)) HOWN (Lib.hid ((HUA.out _ ud4).trans HUPA.out))
      intro s1 s2 T F EW al' gB w11 HH1 HR11 HU11
      skip
      have hup11:Upd [] [] w3 w11:=HU11.out.mono (fun _ h=>h) (fun _ h=>absurd h (by simp))
      have RC11:=Lib.hid (paa RC3.out hup11)
      obtain ⟨n3,hn3⟩:∃ n3,n3=n2+1:=⟨_,rfl⟩
      rw [← hn3] at HR11
      have e3n:IntKind.i64.wrap ((n2:Int)+1)=(n3:Int):=by rw [IntWalk.i64_in _ (by omega)];omega
      obtain ⟨HS,hHS⟩:∃ HS:ByteArray,HS=⟨#[104,97,115,104]⟩:=⟨_,rfl⟩
      obtain ⟨EB,hEB⟩:∃ EB,EB=evH (n3:Int) 4 (n:Int) HS:=⟨_,rfl⟩
      obtain ⟨BV,hBV⟩:∃ BV,BV=EB.V.toArray:=⟨_,rfl⟩
      have HBB:Hid (Tryz.prog.built 53 [(0,.int .i64 (n3:Int)),(1,.int .i64 4),(4,.int .i64 (n:Int)),(5,.string ⟨#[104,97,115,104]⟩)]=some BV):=by show _=_;rw [hBV,hEB,hHS];exact pgv _ _ _
      have hbo:EB.ok:=by rw [hEB];exact pgs HS (by unfold pab;omega) (by unfold pab;omega) (by unfold pab;omega)
      have hbz:EB.x.size≤1000000:=by rw [hEB,hHS];exact (by decide:(ByteArray.mk #[104,97,115,104]).size≤1000000)
      obtain ⟨F2,hF2⟩:∃ F2,F2=(EB.from ((k+1:Nat):Int)).signed (secN k):=⟨_,rfl⟩
      have HEV2:Hid (Calls Tryz.prog 9 #[.agg CA,.int .i64 (k:Int),.agg BV] w11 (pjl F2 w11)):=by
       show Calls _ _ _ _ _
       rw [HCA.out,hBV,hF2]
       exact pcD l L K P KM S C KS w11 (HC3.out.upd hup11) k (by rw [← HNN.out];exact hkN) EB hbo hbz
      have hfo:F2.ok:=by rw [hF2];exact EvG.signed_ok (EvG.from_ok hbo (by unfold pab;omega)) _
      have hfz:F2.x.size≤1000000:=by rw [hF2];exact hbz
      have HHN2:Hid (∀ T,bs T=F2.text→Hon l k q0 b1 (2 * n+1) ⟨F2.h,T,F2.r,F2.s⟩):=fun T hT=>pdS (ev:=evH ((2 * n+1:Nat):Int) 4 (n:Int) HS) (by omega) (piz (by omega) hlt (by rw [hHS];rfl)) (by omega) (by rw [hF2,hEB,hn3,HN2.out]) hT
      have HVO2:Hid (∀ (EW:Array Value) W,EW=F2.V.toArray→Upd [] [] w11 W→Calls Tryz.prog 8 #[.agg EW] W (MkVt F2 W)):=fun EW W h3 u=>by
       rw [h3]
       exact pdO F2 hfo hfz W (HTAB.out.upd (U3.out.trans (hup11.trans u)))
      have HVS1:=Lib.hid (HVS.out.snoc HH1.out)
      have HN3:=Lib.hid hn3
      clear hup11 hn3 hHS hEB hBV hbo hbz hF2 hfo hfz HH1 HEVT HVOT HK12 HKB HKA HRO HUA HBE fP10 U10 HHP HPI hl1 hl2 HDI HVS HRW
      go_wp2_with (first | (refine wpList_load_row rfl 34 _ rfl gC rfl _ CA _ _ RC11.out Tryz.underlying34 rfl HCI.out ?_) | (refine wpList_buildTo rfl 53 _ rfl _ rfl BV (Eq.trans (congrArg (fun z=>Tryz.prog.built 53 z) (by kernel_rfl)) HBB.out) ?_))
      refine HEV2.out.mono ?_
      rintro e w12 ⟨EW2,HEW2,rfl,hq⟩
      have U12:=Lib.hid hq
      clear hq HEV2
      go_wp2_with fail
      refine (HVO2.out EW2 w12 HEW2.out U12.out).mono ?_
      rintro e w13 ⟨T2,HT2,rfl,hq⟩
      have U13:=Lib.hid (U12.out.trans hq)
      obtain ⟨al2,wB,hrun,hown,hpa⟩:=pcR w13 al' n3 (vs ++ [⟨F.h,T,F.r,F.s⟩]) ⟨F2.h,T2,F2.r,F2.s⟩ (pai HR11.out fun b hb=>U13.out.block b (paf HR11.out b hb) (by simp)) (by have:=HN3.out;omega)
      have HRUN:=Lib.hid hrun
      have HBU:=Lib.hid (pdR ⟨F2.h,T2,F2.r,F2.s⟩ w13)
      have HFIN:Hid (HonL l k q0 b1 (2 * (n+1)) (vs ++ [⟨F.h,T,F.r,F.s⟩] ++ [⟨F2.h,T2,F2.r,F2.s⟩])∧wB.ownsRow 0 48 4 al2 (2 * (n+1)) (pbn (vs ++ [⟨F.h,T,F.r,F.s⟩] ++ [⟨F2.h,T2,F2.r,F2.s⟩]))∧Upd [] (foot al2) w3 wB):=by
       have e2:n3+1=2 * (n+1):=by have:=HN3.out;have:=HN2.out;omega
       refine ⟨?_,?_,(HU11.out.trans (U13.out.widen (K:=foot al') (by simp))).trans hpa⟩
       · exact HVS1.out.snoc (HHN2.out T2 HT2.out)
       · rw [← e2];exact hown
      clear hrun hown hpa hq HVO2 HHN2 HVS1 HR11 HU11
      go_wp2_with (first | (refine wpList_buildRun rfl 36 1 _ rfl _ _ (Eq.trans (congrArg (fun z=>(Instr.buildSlice 36 1 z).run Tryz.prog w13) (by kernel_rfl)) HBU.out) ?_) | (refine wpList_append_run _ rfl _ _ _ _ rfl _ _ al2 wB rfl rfl HRUN.out ?_))
      exact ⟨⟨n+1,_,by go_num,by omega,HFIN.out.1,HFIN.out.2.1,HFIN.out.2.2⟩,by first | (simp [intOf];done) | (simp [intOf];omega)⟩
  · skip
    obtain rfl:n=6:=by omega
    have hup:Upd [] [] w3 wr:=HU.out.mono (fun _ h=>h) (fun _ h=>absurd h (by simp))
    have HUP:=Lib.hid hup
    have Rr:=Lib.hid (paa R3.out hup)
    have hb1:b1≤255:=HB.out.2.1
    have e1i:IntKind.i64.wrap (b1:Int)=(b1:Int):=IntWalk.i64_in _ (by omega)
    obtain ⟨bb,hbb⟩:∃ bb,bb=b1+1:=⟨_,rfl⟩
    have HBB:=Lib.hid hbb
    have e1p:IntKind.i64.wrap ((b1:Int)+1)=(bb:Int):=by rw [IntWalk.i64_in _ (by omega)];omega
    have HOF:=Lib.hid (pnR (b1:Int) (by unfold pab;omega))
    simp only [Int.toNat_natCast] at HOF
    have c1:wr.cell? ⟨gQ,1,none⟩=some (.int .u8 (b1:Int)):=cell_of_row _ gQ 1 _ _ _ Rr.out
    clear hup hlt hn hbb
    go_wp2_with fail
    refine (HOF.out wr).mono ?_
    rintro e w4 ⟨FT,HFT,rfl,hq⟩
    have U4:=Lib.hid hq
    have R4:=Lib.hid (paa Rr.out hq)
    have HK15:Hid (∀ W,Upd [] [] w4 W→W.cell? ⟨gQ,1,none⟩=some (.int .u8 (b1:Int))):=fun W u=>cell_of_row _ gQ 1 _ _ _ (paa R4.out u)
    have HMU:=Lib.hid (fun W=>pey FT FT b1 HFT.out HFT.out (by omega) W)
    have HDB:=Lib.hid (fun A=>pn1 (b1:Int) (bb:Int) FT A)
    have ud0:Upd [] [] w4 w4.drew:=(Upd.refl _ _).drew
    clear hq HOF c1
    go_upto_region 15 with (fail)
    refine @_root_.id ((∀ (AT:ByteArray) (gD:Nat) (W:World),Hid (bs AT=be (b1 * b1))→Hid (W.heap[gD]? =some (.cells (dspG (b1:Int) (bb:Int) FT AT ⟨#[]⟩) 61 (0,0)))→Hid (Upd [] [] w4 W)→Hid (w4.heap.size≤gD)→(?pj65:ByteArray→Nat→World→Prop) AT gD W)→_) (fun hJ=>?mj65) ?jj65
    case mj65 =>
     refine wp_region_noPanic ?_
     refine wp_region_held_drew (S:=fun wp=>wp.cell? ⟨gQ,1,none⟩=some (.int .u8 (b1:Int))) (by kernel_rfl) ?_ (fun hHeld=>?_)
     · exact HK15.out _ ud0
     refine tkY 0 hHeld ?_
     refine tkY 1 hHeld ?_
     refine tkY 2 hHeld ?_
     refine tkY 3 hHeld ?_
     refine tkY 4 hHeld ?_
     refine tkY 5 hHeld ?_
     refine tkY 6 hHeld ?_
     refine tkY 7 hHeld ?_
     refine tkY 8 hHeld ?_
     refine tkY 9 hHeld ?_
     refine tkA [10,12] ?_
     refine tkC (fun K hK=>?_) ?_
     · go_simp;refine (HMU.out _).mono ?_;rintro e wv1 ⟨AT,HAT,rfl,hq⟩;have ud1:=ud0.trans hq;clear hq;go_wp2_with fail
       refine tkK hK (HK15.out _ ud1) fun hHeld=>?_
       clear hK K
       refine wpAnyH_take (i:=11) (v:=.agg (dspG (b1:Int) (bb:Int) FT AT ⟨#[]⟩)) (by simp only [List.getElem?_toArray,List.getElem?_cons_succ,List.getElem?_cons_zero] <;> rfl) (by kernel_rfl) (by kernel_rfl) (by kernel_rfl) (fun _ _ _ h=>h) (paX (by rfl) 61 _ rfl (dspG (b1:Int) (bb:Int) FT AT ⟨#[]⟩) (Eq.trans (congrArg (fun z=>Tryz.prog.built 61 z) (by kernel_rfl)) (HDB.out _))) hHeld ?_
       try simp only [Act.put,List.setIfInBounds_toArray,List.set_cons_zero,List.set_cons_succ]
       refine tk1 12 fun K hK=>?_
       go_simp;obtain ⟨gD,wv2,hgx,hwx,fD_2,hq⟩:=paw (wv1) (.cells #[.int .i64 0,.int .i64 0,.string ⟨#[]⟩,.string ⟨#[]⟩,.string ⟨#[]⟩] 61);rw [← hgx,← hwx];have bD:w4.heap.size≤gD:=(by have:=ud1.size;omega);have ud2:=ud1.trans hq;clear hgx hwx hq
       refine tkK hK (HK15.out _ ud2) fun hHeld=>?_
       clear hK K
       refine tk1 13 fun K hK=>?_
       rw [if_pos (by rfl)];refine wp_store_row 61 _ _ rfl gD (dspG (b1:Int) (bb:Int) FT AT ⟨#[]⟩) rfl rfl _ _ fD_2.out (phg _ _ _ _ _) rfl (pn2 _ _ _ _ _) ?_;obtain ⟨wv3,hwx⟩:∃ W':World,W'=wv2.setRow gD (dspG (b1:Int) (bb:Int) FT AT ⟨#[]⟩):=⟨_,rfl⟩;have fD_3:Hid (wv3.heap[gD]? =some (.cells (dspG (b1:Int) (bb:Int) FT AT ⟨#[]⟩) 61 (0,0))):=(by show _=_;rw [hwx];exact setRow_heap _ _ _ _ _ _ fD_2.out);have ud3:=ud2.setRowNew bD (dspG (b1:Int) (bb:Int) FT AT ⟨#[]⟩);rw [← hwx] at ud3 ⊢;clear hwx
       refine tkK hK (HK15.out _ ud3) fun hHeld=>?_
       clear hK K
       refine wpAnyH_done (by kernel_rfl) ?_ _
       refine NoPanic.normal ?_
       exact hJ AT gD wv3 HAT fD_3 (Lib.hid ud3) (Lib.hid bD)
     refine tkZ fun K hK=>?_
     go_simp;obtain ⟨gD,wv1,hgx,hwx,fD_1,hq⟩:=paF w4 (.cells #[.int .i64 0,.int .i64 0,.string ⟨#[]⟩,.string ⟨#[]⟩,.string ⟨#[]⟩] 61);rw [← hgx,← hwx];have bD:w4.heap.size≤gD:=(by omega);have ud1:=hq;clear hgx hwx hq
     refine tkK hK (HK15.out _ ud1) fun hHeld=>?_
     clear hK K
     refine tk1 10 fun K hK=>?_
     go_simp;refine (HMU.out _).mono ?_;rintro e wv2 ⟨AT,HAT,rfl,hq⟩;have ud2:=ud1.trans hq;have fD_2:=Lib.hid (paa fD_1.out hq);clear hq;go_wp2_with fail
     refine tkK hK (HK15.out _ ud2) fun hHeld=>?_
     clear hK K
     refine wpAnyH_take (i:=11) (v:=.agg (dspG (b1:Int) (bb:Int) FT AT ⟨#[]⟩)) (by simp only [List.getElem?_toArray,List.getElem?_cons_succ,List.getElem?_cons_zero] <;> rfl) (by kernel_rfl) (by kernel_rfl) (by kernel_rfl) (fun _ _ _ h=>h) (paX (by rfl) 61 _ rfl (dspG (b1:Int) (bb:Int) FT AT ⟨#[]⟩) (Eq.trans (congrArg (fun z=>Tryz.prog.built 61 z) (by kernel_rfl)) (HDB.out _))) hHeld ?_
     try simp only [Act.put,List.setIfInBounds_toArray,List.set_cons_zero,List.set_cons_succ]
     refine tk1 13 fun K hK=>?_
     rw [if_pos (by rfl)];refine wp_store_row 61 _ _ rfl gD (dspG (b1:Int) (bb:Int) FT AT ⟨#[]⟩) rfl rfl _ _ fD_2.out (phg _ _ _ _ _) rfl (pn2 _ _ _ _ _) ?_;obtain ⟨wv3,hwx⟩:∃ W':World,W'=wv2.setRow gD (dspG (b1:Int) (bb:Int) FT AT ⟨#[]⟩):=⟨_,rfl⟩;have fD_3:Hid (wv3.heap[gD]? =some (.cells (dspG (b1:Int) (bb:Int) FT AT ⟨#[]⟩) 61 (0,0))):=(by show _=_;rw [hwx];exact setRow_heap _ _ _ _ _ _ fD_2.out);have ud3:=ud2.setRowNew bD (dspG (b1:Int) (bb:Int) FT AT ⟨#[]⟩);rw [← hwx] at ud3 ⊢;clear hwx
     refine tkK hK (HK15.out _ ud3) fun hHeld=>?_
     clear hK K
     refine wpAnyH_done (by kernel_rfl) ?_ _
     refine NoPanic.normal ?_
     exact hJ AT gD wv3 HAT fD_3 (Lib.hid ud3) (Lib.hid bD)
    intro AT gD w5 HAT fD5 U5 HGD
    skip
    have hfl:∀ b,b∈foot u10→w3.heap.size≤b∧b<wr.heap.size:=fun b hb=>⟨by
     rcases HU.out.new b hb with h | h
     · simp at h
     · exact h,paf HRW.out b hb⟩
    obtain ⟨gs,sc,hS,hgs,hsec⟩:=HC3.out.sec (k:=k) (by rw [← HNN.out];exact hkN)
    rw [← HNN.out] at hS
    have hup5:Upd [] [] w3 w5:=HUP.out.trans (U4.out.trans U5.out)
    have hs5:=hup5.size
    have hs4:=U4.out.size
    have hgCl:=pag RC3.out
    have RC5:=Lib.hid (paa RC3.out hup5)
    have h5:w5.cell? ⟨gC,0,none⟩=some (.slice (some ⟨gm,0,none⟩) N mc)∧w5.cell? ⟨gm,k * 3,none⟩=some (.int .i64 ((k+1:Nat):Int))∧w5.cell? ⟨gC,6,none⟩=some (.slice (some ⟨gs,0,none⟩) N sc)∧w5.cell? ⟨gs,k,none⟩=some (.int .i64 (secN k:Int)):=by
     refine ⟨?_,(hup5.cell (p:=⟨gm,k * 3,none⟩) hgm (by simp)).trans hmid,?_,(hup5.cell (p:=⟨gs,k,none⟩) hgs (by simp)).trans hsec⟩
     · rw [cell_of_row _ gC 0 _ _ _ RC5.out,HCA.out,HL.out];rfl
     · rw [cell_of_row _ gC 6 _ _ _ RC5.out,HCA.out,hS];rfl
    obtain ⟨idv,hidv⟩:∃ i:Int,i=((k+1:Nat):Int):=⟨_,rfl⟩
    obtain ⟨sk,hsk⟩:∃ s:Nat,s=secN k:=⟨_,rfl⟩
    rw [← hidv,← hsk] at h5
    have HID:=Lib.hid hidv
    have HSK:Hid (-9223372036854775808≤(sk:Int)∧(sk:Int)≤9223372036854775807):=by have:=pnV k;show _∧_;omega
    obtain ⟨DV,hDV⟩:∃ DV,DV=dspG (b1:Int) (bb:Int) FT AT ⟨#[]⟩:=⟨_,rfl⟩
    rw [← hDV] at fD5
    have HDVE:=Lib.hid hDV
    have HDI:Hid ((Tryz.prog.info? 61).map (·.size)=some DV.size):=by show _=_;rw [hDV];exact phg _ _ _ _ _
    have HK16:Hid (∀ W,Upd [] [] w5 W→W.cell? ⟨gC,0,none⟩=some (.slice (some ⟨gm,0,none⟩) N mc)∧W.cell? ⟨gm,k * 3,none⟩=some (.int .i64 idv)∧W.cell? ⟨gC,6,none⟩=some (.slice (some ⟨gs,0,none⟩) N sc)∧W.cell? ⟨gs,k,none⟩=some (.int .i64 (sk:Int))∧(Instr.loadAt 61 (.pointer (some ⟨gD,0,none⟩))).run Tryz.prog W=.ok (.agg DV) W):=fun W u =>
     ⟨(u.cell (p:=⟨gC,0,none⟩) (by show gC<_;omega) (by simp)).trans h5.1,(u.cell (p:=⟨gm,k * 3,none⟩) (by show gm<_;omega) (by simp)).trans h5.2.1,(u.cell (p:=⟨gC,6,none⟩) (by show gC<_;omega) (by simp)).trans h5.2.2.1,(u.cell (p:=⟨gs,k,none⟩) (by show gs<_;omega) (by simp)).trans h5.2.2.2,pbJ Tryz.underlying61 HDI.out (paa fD5.out u)⟩
    have hDl:=pag fD5.out
    have hnf:∀ b,b=gC∨b=gm∨b=gs∨b=gD→b<w5.heap.size∧b ∉ foot u10:=fun b hb=>⟨by omega,fun h=>by have:=hfl b h;have:=HGD.out;omega⟩
    have HKA:Hid (∀ W0 W al',Upd [] [] w5 W0→Upd (foot u10) (foot al') W0 W→W.cell? ⟨gC,0,none⟩=some (.slice (some ⟨gm,0,none⟩) N mc)∧W.cell? ⟨gm,k * 3,none⟩=some (.int .i64 idv)∧W.cell? ⟨gC,6,none⟩=some (.slice (some ⟨gs,0,none⟩) N sc)∧W.cell? ⟨gs,k,none⟩=some (.int .i64 (sk:Int))∧(Instr.loadAt 61 (.pointer (some ⟨gD,0,none⟩))).run Tryz.prog W=.ok (.agg DV) W):=fun W0 W al' u v=>by
     have k0:=HK16.out W0 u
     have hz:∀ b,b=gC∨b=gm∨b=gs∨b=gD→b<W0.heap.size:=fun b hb=>Nat.lt_of_lt_of_le (hnf b hb).1 u.size
     exact ⟨(v.cell (p:=⟨gC,0,none⟩) (hz gC (.inl rfl)) (hnf gC (.inl rfl)).2).trans k0.1,(v.cell (p:=⟨gm,k * 3,none⟩) (hz gm (.inr (.inl rfl))) (hnf gm (.inr (.inl rfl))).2).trans k0.2.1,(v.cell (p:=⟨gC,6,none⟩) (hz gC (.inl rfl)) (hnf gC (.inl rfl)).2).trans k0.2.2.1,(v.cell (p:=⟨gs,k,none⟩) (hz gs (.inr (.inr (.inl rfl)))) (hnf gs (.inr (.inr (.inl rfl)))).2).trans k0.2.2.2.1,pbJ Tryz.underlying61 HDI.out ((v.block gD (hz gD (.inr (.inr (.inr rfl)))) (hnf gD (.inr (.inr (.inr rfl)))).2).trans (paa fD5.out u))⟩
    have HKD:Hid (∀ W0 W al',Upd [] [] w5 W0→Upd (foot u10) (foot al') W0 W→W.heap[gD]? =some (.cells DV 61 (0,0))∧gD<W.heap.size):=fun W0 W al' u v=>by
     have h:=(v.block gD (Nat.lt_of_lt_of_le (hnf gD (.inr (.inr (.inr rfl)))).1 u.size) (hnf gD (.inr (.inr (.inr rfl)))).2).trans (paa fD5.out u)
     exact ⟨h,pag h⟩
    have HCL:Hid (∀ W,Upd [] [] w5 W→Calls Tryz.prog 15 #[.agg DV] W (MkS (pbI (b1:Int) (bb:Int) b1 (b1 * b1)) W)):=fun W u=>by
     have hq2:b1 * b1≤255 * 255:=Nat.mul_le_mul hb1 hb1
     have:=HBB.out
     rw [hDV]
     exact ppr _ _ _ _ _ _ _ (by unfold pab;omega) (by unfold pab;omega) HFT.out HAT.out (by omega) (by omega) W (HTAB.out.upd (U3.out.trans (hup5.trans u)))
    have HTL:Hid ((pbI (b1:Int) (bb:Int) b1 (b1 * b1)).length≤100):=by
     have hq2:b1 * b1≤255 * 255:=Nat.mul_le_mul hb1 hb1
     have:=HBB.out
     exact pdw (by unfold pab;omega) (by unfold pab;omega) (by omega) (by omega)
    have HSV:Hid (∀ (T:ByteArray) W,T.size≤100→Upd [] [] w5 W→Calls Tryz.prog 14 #[.int .i64 idv,.int .i64 (sk:Int),.string T] W (pq4 idv (sk:Int) T W)):=fun T W hz u=>plj idv (sk:Int) T W HSK.out (by omega) (HTAB.out.upd (U3.out.trans (hup5.trans u)))
    have HRO:Hid (∀ W,Upd [] [] w5 W→W.ownsRow 0 48 4 u10 12 (pbn vs)):=fun W u=>pai HRW.out fun b hb=>(U4.out.trans (U5.out.trans u)).block b (hfl b hb).2 (by simp)
    have HUA:Hid (∀ W,Upd [] [] w5 W→Upd [] (foot u10) w3 W):=fun W u=>⟨(hup5.trans u).os,(hup5.trans u).tape,(hup5.trans u).output,(hup5.trans u).size,(hup5.trans u).block,fun b hb=>.inr (hfl b hb).1⟩
    have HH12:Hid (∀ (T:ByteArray) (r s:Nat),bs T=pbI (b1:Int) (bb:Int) b1 (b1 * b1)→r<2305843009213691579→s<1152921504606845789→Hon l k q0 b1 12 ⟨idv,T,r,s⟩):=fun T r s hT hr hs=>by
     rw [HID.out]
     exact pnW (by omega) hb1 (by unfold pab;omega) (by unfold pab;omega) (by rw [hT,HBB.out])
    have hk0:(0:Int)≤(k:Int):=by omega
    have hkI:(k:Int)<(N:Int):=by omega
    have ud0:Upd [] [] w5 w5.drew:=(Upd.refl _ _).drew
    have HUU:=HU
    clear hnf hDl hDV hsk hidv h5 hgCl hs4 hs5 hup5 hS hgs hsec hfl HU HK15 HMU HDB R4 Rr
    go_upto_region 16 with (fail)
    refine @_root_.id ((∀ (TC:ByteArray) (r s:Nat) (al':Value) (gB:Nat) (W:World),Hid (Hon l k q0 b1 12 ⟨idv,TC,r,s⟩)→Hid (W.ownsRow 0 48 4 al' 13 (pbn (vs ++ [⟨idv,TC,r,s⟩])))→Hid (Upd [] (foot al') w3 W)→Hid (W.heap[gD]? =some (.cells DV 61 (0,0))∧gD<W.heap.size)→(?pj76:ByteArray→Nat→Nat→Value→Nat→World→Prop) TC r s al' gB W)→_) (fun hJ=>?mj76) ?jj76
    case mj76 =>
     refine wp_region_noPanic ?_
     refine wp_region_held_drew (S:=fun wp=>wp.cell? ⟨gC,0,none⟩=some (.slice (some ⟨gm,0,none⟩) N mc)∧wp.cell? ⟨gm,k * 3,none⟩=some (.int .i64 idv)∧wp.cell? ⟨gC,6,none⟩=some (.slice (some ⟨gs,0,none⟩) N sc)∧wp.cell? ⟨gs,k,none⟩=some (.int .i64 (sk:Int))∧(Instr.loadAt 61 (.pointer (some ⟨gD,0,none⟩))).run Tryz.prog wp=.ok (.agg DV) wp) (by kernel_rfl) ?_ (fun hHeld=>?_)
     · exact HK16.out _ ud0
     refine tkY 0 hHeld ?_
     refine tkY 1 hHeld ?_
     refine tkY 2 hHeld ?_
     refine tkY 3 hHeld ?_
     refine tkY 4 hHeld ?_
     refine tkY 5 hHeld ?_
     refine tkY 6 hHeld ?_
     refine tkY 7 hHeld ?_
     refine tkY 8 hHeld ?_
     refine tkY 9 hHeld ?_
     refine tkY 10 hHeld ?_
     refine tkY 11 hHeld ?_
     refine tkY 12 hHeld ?_
     refine tkL 13 hHeld DV (fun w hSw=>hSw.2.2.2.2) ?_
     refine tk1 14 fun K hK=>?_
     go_simp;refine (HCL.out _ ud0).mono ?_;rintro e wv1 ⟨TC,HTC,hzt,rfl,hq⟩;have ud1:=ud0.trans hq;clear hq;go_wp2_with fail
     refine tkK hK (HK16.out _ ud1) fun hHeld=>?_
     clear hK K
     refine tk1 15 fun K hK=>?_
     go_simp;refine (HSV.out TC _ (Nat.le_trans hzt HTL.out) ud1).mono ?_;rintro e wv2 ⟨r,s,_,hr,hs,rfl,hq⟩;have ud2:=ud1.trans hq;clear hq;obtain ⟨al',wA,hrun,hown,hpa⟩:=pcR wv2 u10 12 vs ⟨idv,TC,r,s⟩ (HRO.out _ ud2) (by omega);have HRUN:=Lib.hid hrun;have HOWN:=Lib.hid hown;have HUPA:=Lib.hid hpa;have HBU:=Lib.hid (pdR ⟨idv,TC,r,s⟩ wv2);clear hrun hown hpa;go_wp2_with fail
     refine tkK hK (HK16.out _ ud2) fun hHeld=>?_
     clear hK K
     refine tk1 16 fun K hK=>?_
     rw [if_pos (by rfl)];refine pdo 36 1 _ rfl _ _ (Eq.trans (congrArg (fun z=>(Instr.buildSlice 36 1 z).run Tryz.prog wv2) (by kernel_rfl)) HBU.out) ?_
     refine tkK hK (HK16.out _ (ud2.alloc _)) fun hHeld=>?_
     clear hK K
     refine tk1 17 fun K hK=>?_
     refine pav _ rfl _ _ _ _ rfl u10 (.slice (some ⟨wv2.heap.size,0,none⟩) 1 1) al' wA rfl rfl HRUN.out ?_
     refine tkK hK (HKA.out _ _ al' ud2 HUPA.out) fun hHeld=>?_
     clear hK K
     refine tkY 18 hHeld ?_
     refine wpAnyH_done (by kernel_rfl) ?_ _
     refine NoPanic.normal ?_
     obtain ⟨gB,hgB⟩:∃ g,wv2.heap.size=g:=⟨_,rfl⟩;rw [hgB];exact hJ TC r s al' gB wA (Lib.hid (HH12.out TC r s HTC.out hr hs)) HOWN (Lib.hid ((HUA.out _ ud2).trans HUPA.out)) (Lib.hid (HKD.out _ _ _ ud2 HUPA.out))
    intro TC r s al' gB w6 HHC HR6 HU6 HD6
    skip
    obtain ⟨vz,hvz⟩:∃ z,z=vs ++ [⟨idv,TC,r,s⟩]:=⟨_,rfl⟩
    rw [← hvz] at HR6
    have HVZ:Hid (HonL l k q0 b1 13 vz):=by show HonL _ _ _ _ _ _;rw [hvz];exact HVS.out.snoc HHC.out
    have hvl:vz.length=13:=HVZ.out.1
    obtain ⟨gA,cA,hal,hcA,hcm,hin⟩:=pnU hvl (by omega) HR6.out
    subst hal
    have HIN:=Lib.hid hin
    have hup6:Upd [] [] w3 w6:=HU6.out.mono (fun _ h=>h) (fun _ h=>absurd h (by simp))
    have HUP6:=Lib.hid hup6
    have R6:=Lib.hid (paa R3.out hup6)
    have hb2:b2≤255:=HB.out.2.2.1
    have hb3:b3≤255:=HB.out.2.2.2
    obtain ⟨i,hi⟩:∃ i,i=b2 % 13:=⟨_,rfl⟩
    obtain ⟨j,hj⟩:∃ j,j=b3 % 13:=⟨_,rfl⟩
    have hi13:i<13:=by omega
    have hj13:j<13:=by omega
    obtain ⟨va,ha⟩:∃ a,vz[i]? =some a:=⟨_,List.getElem?_eq_getElem (by omega)⟩
    obtain ⟨vb,hb⟩:∃ a,vz[j]? =some a:=⟨_,List.getElem?_eq_getElem (by omega)⟩
    have HHA:Hid (Hon l k q0 b1 i va):=HVZ.out.2 i va ha
    have HHB:Hid (Hon l k q0 b1 j vb):=HVZ.out.2 j vb hb
    have HIJ:Hid (i=j→va=vb):=fun e=>by subst e;rw [ha] at hb;exact Option.some.inj hb
    obtain ⟨VA,hVA⟩:∃ V,V=va.V.toArray:=⟨_,rfl⟩
    obtain ⟨VB,hVB⟩:∃ V,V=vb.V.toArray:=⟨_,rfl⟩
    have HVI:Hid (∀ v:Hv,(Tryz.prog.info? 48).map (·.size)=some v.V.toArray.size∧v.V.toArray.all (·.oneCell')=true∧(#[.int .i64 0,.string ⟨#[]⟩,.int .i64 0,.int .i64 0]:Array Value).size=v.V.toArray.size):=fun v=>⟨by show _=some 4;kernel_rfl,by simp [Hv.V,Value.oneCell'],rfl⟩
    have HVA:=Lib.hid (HVI.out va)
    have HVB:=Lib.hid (HVI.out vb)
    rw [← hVA] at HVA
    rw [← hVB] at HVB
    have e2w:IntKind.i64.wrap (b2:Int)=(b2:Int):=IntWalk.i64_in _ (by omega)
    have e3w:IntKind.i64.wrap (b3:Int)=(b3:Int):=IntWalk.i64_in _ (by omega)
    have eI:(b2:Int).tmod 13=(i:Int):=by rw [Int.tmod_eq_emod_of_nonneg (by omega)];omega
    have eJ:(b3:Int).tmod 13=(j:Int):=by rw [Int.tmod_eq_emod_of_nonneg (by omega)];omega
    have eIe:(b2:Int) % 13=(i:Int):=by omega
    have eJe:(b3:Int) % 13=(j:Int):=by omega
    have hi0:(0:Int)≤(i:Int):=by omega
    have hj0:(0:Int)≤(j:Int):=by omega
    have hiI:(i:Int)<13:=by omega
    have hjI:(j:Int)<13:=by omega
    have HK17:Hid (∀ W,Upd [] [] w6 W→W.cell? ⟨gQ,2,none⟩=some (.int .u8 (b2:Int))∧W.cell? ⟨gQ,3,none⟩=some (.int .u8 (b3:Int))∧(Instr.loadAt 48 (.pointer (some ⟨gA,i * 4,none⟩))).run Tryz.prog W=.ok (.agg VA) W∧(Instr.loadAt 48 (.pointer (some ⟨gA,j * 4,none⟩))).run Tryz.prog W=.ok (.agg VB) W):=fun W u =>
     ⟨cell_of_row _ gQ 2 _ _ _ (paa R6.out u),cell_of_row _ gQ 3 _ _ _ (paa R6.out u),by rw [hVA];exact (HIN.out.upd u).load ha,by rw [hVB];exact (HIN.out.upd u).load hb⟩
    have HVAE:=Lib.hid hVA
    have HVBE:=Lib.hid hVB
    have ud0:Upd [] [] w6 w6.drew:=(Upd.refl _ _).drew
    clear hvz hvl hcA hcm hin hup6 hb2 hb3 hi hj ha hb hVA hVB HU6 HR6 HKD HKA HUA HRO HSV HH12 HCL HTL HK16 HHC HVS HRW HUU
    go_upto_region 17 with (fail)
    refine @_root_.id ((∀ (gX gY:Nat) (W:World),Hid (W.heap[gX]? =some (.cells VA 48 (0,0)))→Hid (W.heap[gY]? =some (.cells VB 48 (0,0)))→Hid (Upd [] [] w6 W)→(?q91:Nat→Nat→World→Prop) gX gY W)→_) (fun hJ=>?mf91) ?jf91
    case' mf91=>skip
    refine @_root_.id ((∀ (gX:Nat) (gY:Nat) (wv2:World),Hid (wv2.heap[gX]? =some (.cells #[.int .i64 0,.string ⟨#[]⟩,.int .i64 0,.int .i64 0] 48 (0,0)))→Hid (wv2.heap[gY]? =some (.cells #[.int .i64 0,.string ⟨#[]⟩,.int .i64 0,.int .i64 0] 48 (0,0)))→w6.heap.size≤gX→w6.heap.size≤gY→gX≠gY→Upd [] [] w6 wv2→ (fun wp=>wp.cell? ⟨gQ,2,none⟩=some (.int .u8 (b2:Int))∧wp.cell? ⟨gQ,3,none⟩=some (.int .u8 (b3:Int))∧(Instr.loadAt 48 (.pointer (some ⟨gA,i * 4,none⟩))).run Tryz.prog wp=.ok (.agg VA) wp∧(Instr.loadAt 48 (.pointer (some ⟨gA,j * 4,none⟩))).run Tryz.prog wp=.ok (.agg VB) wp) wv2→(?q91_0:Nat→Nat→World→Prop) gX gY wv2)→_) (fun hs91_0=>?mhs91_0) ?jhs91_0
    case' mhs91_0=>skip
    refine wp_region_noPanic ?_
    refine wp_region_held_drew (S:=fun wp=>wp.cell? ⟨gQ,2,none⟩=some (.int .u8 (b2:Int))∧wp.cell? ⟨gQ,3,none⟩=some (.int .u8 (b3:Int))∧(Instr.loadAt 48 (.pointer (some ⟨gA,i * 4,none⟩))).run Tryz.prog wp=.ok (.agg VA) wp∧(Instr.loadAt 48 (.pointer (some ⟨gA,j * 4,none⟩))).run Tryz.prog wp=.ok (.agg VB) wp) (by kernel_rfl) ?_ (fun hHeld=>?_)
    · exact HK17.out _ ud0
    refine tkY 0 hHeld ?_
    refine tkY 1 hHeld ?_
    refine tkY 2 hHeld ?_
    refine tkY 3 hHeld ?_
    refine tkY 4 hHeld ?_
    refine tkY 5 hHeld ?_
    refine tkY 6 hHeld ?_
    refine tkY 7 hHeld ?_
    refine tkL 8 hHeld VA (fun w hSw=>hSw.2.2.1) ?_
    refine tkY 9 hHeld ?_
    refine tkY 10 hHeld ?_
    refine tkY 11 hHeld ?_
    refine tkY 12 hHeld ?_
    refine tkY 13 hHeld ?_
    refine tkY 14 hHeld ?_
    refine tkY 15 hHeld ?_
    refine tkY 16 hHeld ?_
    refine tkL 17 hHeld VB (fun w hSw=>hSw.2.2.2) ?_
    refine tkA [18,19] ?_
    refine tkC (fun K hK=>?_) ?_
    · go_simp;obtain ⟨gX,wv1,hgx,hwx,fX_1,hq⟩:=paF w6 (.cells #[.int .i64 0,.string ⟨#[]⟩,.int .i64 0,.int .i64 0] 48);rw [← hgx,← hwx];have bX:w6.heap.size≤gX:=(by omega);have ud1:=hq;clear hgx hwx hq
      refine tkK hK (HK17.out _ ud1) fun hHeld=>?_
      clear hK K
      refine tk1 19 fun K hK=>?_
      go_simp;obtain ⟨gY,wv2,hgx,hwx,fY_2,hq⟩:=paw (wv1) (.cells #[.int .i64 0,.string ⟨#[]⟩,.int .i64 0,.int .i64 0] 48);rw [← hgx,← hwx];have bY:w6.heap.size≤gY:=(by have:=ud1.size;omega);have ud2:=ud1.trans hq;have fX_2:=Lib.hid (paa fX_1.out hq);have ne_X_Y:gX≠gY:=(by have:=(Array.getElem?_eq_some_iff.1 fX_1.out).1;omega);clear hgx hwx hq
      refine tkK hK (HK17.out _ ud2) fun hHeld=>?_
      clear hK K
      exact hs91_0 gX gY wv2 fX_2 fY_2 bX bY ne_X_Y ud2 hHeld
    refine tkZ fun K hK=>?_
    go_simp;obtain ⟨gY,wv1,hgx,hwx,fY_1,hq⟩:=paF w6 (.cells #[.int .i64 0,.string ⟨#[]⟩,.int .i64 0,.int .i64 0] 48);rw [← hgx,← hwx];have bY:w6.heap.size≤gY:=(by omega);have ud1:=hq;clear hgx hwx hq
    refine tkK hK (HK17.out _ ud1) fun hHeld=>?_
    clear hK K
    refine tk1 18 fun K hK=>?_
    go_simp;obtain ⟨gX,wv2,hgx,hwx,fX_2,hq⟩:=paw (wv1) (.cells #[.int .i64 0,.string ⟨#[]⟩,.int .i64 0,.int .i64 0] 48);rw [← hgx,← hwx];have bX:w6.heap.size≤gX:=(by have:=ud1.size;omega);have ud2:=ud1.trans hq;have fY_2:=Lib.hid (paa fY_1.out hq);have ne_Y_X:gY≠gX:=(by have:=(Array.getElem?_eq_some_iff.1 fY_1.out).1;omega);clear hgx hwx hq
    refine tkK hK (HK17.out _ ud2) fun hHeld=>?_
    clear hK K
    exact hs91_0 gX gY wv2 fX_2 fY_2 bX bY ne_Y_X.symm ud2 hHeld
    case jhs91_0 =>
     intro gX gY wv2 fX_2 fY_2 bX bY ne_X_Y ud2 hHeld
     refine tk1 20 fun K hK=>?_
     rw [if_pos (by rfl)];refine wp_store_row 48 _ _ rfl gX VA rfl rfl _ _ fX_2.out HVA.out.1 HVA.out.2.2 HVA.out.2.1 ?_;obtain ⟨wv3,hwx⟩:∃ W':World,W'=wv2.setRow gX VA:=⟨_,rfl⟩;have fX_3:Hid (wv3.heap[gX]? =some (.cells VA 48 (0,0))):=(by show _=_;rw [hwx];exact setRow_heap _ _ _ _ _ _ fX_2.out);have fY_3:=Lib.hid (pal fY_2.out ne_X_Y.symm VA);rw [← hwx] at fY_3;have ud3:=ud2.setRowNew bX VA;rw [← hwx] at ud3 ⊢;clear hwx
     refine tkK hK (HK17.out _ ud3) fun hHeld=>?_
     clear hK K
     refine tk1 21 fun K hK=>?_
     rw [if_pos (by rfl)];refine wp_store_row 48 _ _ rfl gY VB rfl rfl _ _ fY_3.out HVB.out.1 HVB.out.2.2 HVB.out.2.1 ?_;obtain ⟨wv4,hwx⟩:∃ W':World,W'=wv3.setRow gY VB:=⟨_,rfl⟩;have fY_4:Hid (wv4.heap[gY]? =some (.cells VB 48 (0,0))):=(by show _=_;rw [hwx];exact setRow_heap _ _ _ _ _ _ fY_3.out);have fX_4:=Lib.hid (pal fX_3.out ne_X_Y VB);rw [← hwx] at fX_4;have ud4:=ud3.setRowNew bY VB;rw [← hwx] at ud4 ⊢;clear hwx
     refine tkK hK (HK17.out _ ud4) fun hHeld=>?_
     clear hK K
     refine wpAnyH_done (by kernel_rfl) ?_ _
     refine NoPanic.normal ?_
     exact hJ gX gY wv4 fX_4 fY_4 (Lib.hid ud4)
    case' jf91=>skip
    intro gX gY w7 fX7 fY7 U7
    skip
    have hup7:Upd [] [] w3 w7:=HUP6.out.trans U7.out
    have HUP7:=Lib.hid hup7
    have HC7:=Lib.hid (HC3.out.upd hup7)
    have RC7:=Lib.hid (paa RC3.out hup7)
    have RD7:=Lib.hid (paa HD6.out.1 U7.out)
    have m7:w7.cell? ⟨gm,k * 3,none⟩=some (.int .i64 idv):=by rw [HID.out];exact (hup7.cell (p:=⟨gm,k * 3,none⟩) hgm (by simp)).trans hmid
    have gm7:gm<w7.heap.size:=Nat.lt_of_lt_of_le hgm hup7.size
    have c7:w7.cell? ⟨gC,0,none⟩=some (.slice (some ⟨gm,0,none⟩) N mc):=by rw [cell_of_row _ gC 0 _ _ _ RC7.out,HCA.out,HL.out];rfl
    have gC7:=pag RC7.out
    obtain ⟨SU,hSU⟩:∃ SU:Array Value,SU=#[L,K,P,KM,.int .i64 4,.int .i64 0]:=⟨_,rfl⟩
    have HK21:Hid (∀ W,Upd [] [] w7 W→W.cell? ⟨gC,0,none⟩=some (.slice (some ⟨gm,0,none⟩) N mc)∧W.cell? ⟨gm,k * 3,none⟩=some (.int .i64 idv)∧(Instr.loadAt 48 (.pointer (some ⟨gX,0,none⟩))).run Tryz.prog W=.ok (.agg VA) W∧(Instr.loadAt 48 (.pointer (some ⟨gY,0,none⟩))).run Tryz.prog W=.ok (.agg VB) W∧(Instr.loadAt 61 (.pointer (some ⟨gD,0,none⟩))).run Tryz.prog W=.ok (.agg DV) W):=fun W u =>
     ⟨(u.cell (p:=⟨gC,0,none⟩) gC7 (by simp)).trans c7,(u.cell (p:=⟨gm,k * 3,none⟩) gm7 (by simp)).trans m7,pbJ Tryz.underlying48 HVA.out.1 (paa fX7.out u),pbJ Tryz.underlying48 HVB.out.1 (paa fY7.out u),pbJ Tryz.underlying61 HDI.out (paa RD7.out u)⟩
    have HLS:Hid (∀ W,Upd [] [] w7 W→(Instr.loadAt 30 (.pointer (some ⟨gC,0,none⟩))).run Tryz.prog W=.ok (.agg SU) W):=fun W u=>by
     rw [hSU]
     exact run_loadAt_mid W gC 0 30 [L,K,P,KM,.int .i64 4,.int .i64 0] _ (fun j v hv=>(cell_of_row _ gC (0+j) _ _ _ (paa RC7.out u)).trans (by
      rw [HCA.out]
      match j,hv with
      | 0,hv=>simp at hv;subst hv;rfl
      | 1,hv=>simp at hv;subst hv;rfl
      | 2,hv=>simp at hv;subst hv;rfl
      | 3,hv=>simp at hv;subst hv;rfl
      | 4,hv=>simp at hv;subst hv;rfl
      | 5,hv=>simp at hv;subst hv;rfl)) Tryz.underlying30 rfl (by show _=some 6;kernel_rfl)
    have HJU:Hid (∀ (kd:Nat) W,1≤kd→kd≤5→Upd [] [] w7 W→Calls Tryz.prog 16 #[.agg SU,.agg (hev (kd:Int) idv (b1:Int) (bb:Int) va vb FT AT)] W (MkNo W)):=fun kd W h1 h2 u=>by
     rw [hSU,HBB.out]
     exact plE l L K P KM S C KS W (HC7.out.upd u) k q0 b1 i j hb1 va vb HHA.out HHB.out HIJ.out (kd:Int) idv (by omega) (by rw [HID.out];unfold pab;omega) FT AT HFT.out HAT.out (HTAB.out.upd (U3.out.trans (HUP7.out.trans u)))
    have HU37:=Lib.hid (U3.out.trans hup7)
    have HBD:Hid (∀ kd:Nat,Tryz.prog.built 69 [(0,.int .i64 (kd:Int)),(1,.int .i64 idv),(2,.agg VA),(3,.agg VB),(4,.agg DV)]=some (hev (kd:Int) idv (b1:Int) (bb:Int) va vb FT AT)):=fun kd=>by rw [HVAE.out,HVBE.out,HDVE.out];exact ppb _ _ _ _ _ _ _ _
    clear hup7 m7 c7 hSU HK17 HIN e2w e3w eI eJ eIe eJe hi0 hj0 hiI hjI hi13 hj13 HVI HIJ
    go_upto_region 19 with (fail)
    go_loopw [18,19,20,21] (fun z _ _ _ wr=>∃ (kd:Nat),z=.int .i64 (kd:Int)∧1≤kd∧kd≤6∧Hid (Upd [] [] w7 wr)) (fun z _ _ _ _=>6 - (intOf z).toNat)
    case atStart=>exact ⟨1,rfl,by omega,by omega,Upd.refl _ _⟩
    case round =>
     obtain ⟨kd,rfl,hk1,hk6,HUR⟩:=hrel
     by_cases hkt:kd<6
     · have hk5:(kd:Int)≤5:=by omega
       obtain ⟨EV,hEV⟩:∃ V,V=hev (kd:Int) idv (b1:Int) (bb:Int) va vb FT AT:=⟨_,rfl⟩
       have HEB:=Lib.hid (HBD.out kd)
       have HEI:Hid ((Tryz.prog.info? 69).map (·.size)=some EV.size∧EV.all (·.oneCell')=true∧(#[.int .i64 0,.int .i64 0,.int .i64 0,.string ⟨#[]⟩,.int .i64 0,.int .i64 0,.int .i64 0,.string ⟨#[]⟩,.int .i64 0,.int .i64 0,.int .i64 0,.int .i64 0,.string ⟨#[]⟩,.string ⟨#[]⟩,.string ⟨#[]⟩,.int .i64 0,.int .i64 0,.int .i64 0,.int .i64 0]:Array Value).size=EV.size):=by rw [hEV];exact ⟨pqx _ _ _ _ _ _ _ _,prk _ _ _ _ _ _ _ _,rfl⟩
       have HJK:=Lib.hid (fun W (u:Upd [] [] w7 W)=>HJU.out kd W hk1 (by omega) u)
       rw [← hEV] at HEB HJK
       have HKR:Hid (∀ W,Upd [] [] wr W→W.cell? ⟨gC,0,none⟩=some (.slice (some ⟨gm,0,none⟩) N mc)∧W.cell? ⟨gm,k * 3,none⟩=some (.int .i64 idv)∧(Instr.loadAt 48 (.pointer (some ⟨gX,0,none⟩))).run Tryz.prog W=.ok (.agg VA) W∧(Instr.loadAt 48 (.pointer (some ⟨gY,0,none⟩))).run Tryz.prog W=.ok (.agg VB) W∧(Instr.loadAt 61 (.pointer (some ⟨gD,0,none⟩))).run Tryz.prog W=.ok (.agg DV) W):=fun W u=>HK21.out W (HUR.out.trans u)
       have ud0:Upd [] [] wr wr.drew:=(Upd.refl _ _).drew
       clear hEV
       go_upto_region 21 with (fail)
       refine @_root_.id ((∀ (gE:Nat) (W:World),Hid (W.heap[gE]? =some (.cells EV 69 (0,0)))→Hid (Upd [] [] wr W)→(?pj108:Nat→World→Prop) gE W)→_) (fun hJ=>?mj108) ?jj108
       case mj108 =>
        refine wp_region_noPanic ?_
        refine wp_region_held_drew (S:=fun wp=>wp.cell? ⟨gC,0,none⟩=some (.slice (some ⟨gm,0,none⟩) N mc)∧wp.cell? ⟨gm,k * 3,none⟩=some (.int .i64 idv)∧(Instr.loadAt 48 (.pointer (some ⟨gX,0,none⟩))).run Tryz.prog wp=.ok (.agg VA) wp∧(Instr.loadAt 48 (.pointer (some ⟨gY,0,none⟩))).run Tryz.prog wp=.ok (.agg VB) wp∧(Instr.loadAt 61 (.pointer (some ⟨gD,0,none⟩))).run Tryz.prog wp=.ok (.agg DV) wp) (by kernel_rfl) ?_ (fun hHeld=>?_)
        · exact HKR.out _ ud0
        refine tkY 0 hHeld ?_
        refine tkY 1 hHeld ?_
        refine tkY 2 hHeld ?_
        refine tkY 3 hHeld ?_
        refine tkY 4 hHeld ?_
        refine tkY 5 hHeld ?_
        refine tkY 6 hHeld ?_
        refine tkY 7 hHeld ?_
        refine tkL 8 hHeld VA (fun w hSw=>hSw.2.2.1) ?_
        refine tkL 9 hHeld VB (fun w hSw=>hSw.2.2.2.1) ?_
        refine tkL 10 hHeld DV (fun w hSw=>hSw.2.2.2.2) ?_
        refine wpAnyH_take (i:=11) (v:=.agg EV) (by simp only [List.getElem?_toArray,List.getElem?_cons_succ,List.getElem?_cons_zero] <;> rfl) (by kernel_rfl) (by kernel_rfl) (by kernel_rfl) (fun _ _ _ h=>h) (paX (by rfl) 69 _ rfl EV (Eq.trans (congrArg (fun z=>Tryz.prog.built 69 z) (by kernel_rfl)) HEB.out)) hHeld ?_
        try simp only [Act.put,List.setIfInBounds_toArray,List.set_cons_zero,List.set_cons_succ]
        refine tk1 12 fun K hK=>?_
        go_simp;obtain ⟨gE,wv1,hgx,hwx,fE_1,hq⟩:=paF wr (.cells #[.int .i64 0,.int .i64 0,.int .i64 0,.string ⟨#[]⟩,.int .i64 0,.int .i64 0,.int .i64 0,.string ⟨#[]⟩,.int .i64 0,.int .i64 0,.int .i64 0,.int .i64 0,.string ⟨#[]⟩,.string ⟨#[]⟩,.string ⟨#[]⟩,.int .i64 0,.int .i64 0,.int .i64 0,.int .i64 0] 69);rw [← hgx,← hwx];have bE:wr.heap.size≤gE:=(by omega);have ud1:=hq;clear hgx hwx hq
        refine tkK hK (HKR.out _ ud1) fun hHeld=>?_
        clear hK K
        refine tk1 13 fun K hK=>?_
        rw [if_pos (by rfl)];refine wp_store_row 69 _ _ rfl gE EV rfl rfl _ _ fE_1.out HEI.out.1 HEI.out.2.2 HEI.out.2.1 ?_;obtain ⟨wv2,hwx⟩:∃ W':World,W'=wv1.setRow gE EV:=⟨_,rfl⟩;have fE_2:Hid (wv2.heap[gE]? =some (.cells EV 69 (0,0))):=(by show _=_;rw [hwx];exact setRow_heap _ _ _ _ _ _ fE_1.out);have ud2:=ud1.setRowNew bE EV;rw [← hwx] at ud2 ⊢;clear hwx
        refine tkK hK (HKR.out _ ud2) fun hHeld=>?_
        clear hK K
        refine wpAnyH_done (by kernel_rfl) ?_ _
        refine NoPanic.normal ?_
        exact hJ gE wv2 fE_2 (Lib.hid ud2)
       intro gE w8 fE8 U8
       skip
       have u8:Upd [] [] w7 w8:=HUR.out.trans U8.out
       have HL8:=Lib.hid (HLS.out w8 u8)
       have HJ8:=Lib.hid (HJK.out w8 u8)
       have HU8:=Lib.hid u8
       obtain ⟨k2,hk2⟩:∃ k2,k2=kd+1:=⟨_,rfl⟩
       have ek2:IntKind.i64.wrap ((kd:Int)+1)=(k2:Int):=by rw [IntWalk.i64_in _ (by omega)];omega
       have HK2:=Lib.hid hk2
       clear u8 HKR HEB HJK hk2
       go_wp2_with (first | (refine wpList_load_atW (by rfl) 30 _ rfl gC 0 rfl SU HL8.out ?_) | (refine wpList_load_row rfl 69 _ rfl gE rfl _ EV _ _ fE8.out Tryz.underlying69 rfl HEI.out.1 ?_))
       refine HJ8.out.mono ?_
       rintro e w9 ⟨x,y,hy,rfl,hq⟩
       have U9:=Lib.hid (HU8.out.trans hq)
       have gy:¬ y=0:=hy.out
       have gy2:(y == 0)=false:=by simpa using gy
       clear hy hq
       go_wp2_with fail
       exact ⟨⟨k2,by go_num,by have:=HK2.out;omega,by have:=HK2.out;omega,U9.out⟩,by have:=HK2.out;first | (simp [intOf];done) | (simp [intOf];omega)⟩
     · obtain rfl:kd=6:=by omega
       have HUE:=Lib.hid (HU37.out.trans HUR.out)
       go_wp2_with fail
       first | exact ⟨rfl,_,results_tmp rfl _ _ _,rfl,HUE.out⟩ | exact ⟨rfl,_,results_tmp rfl _ _ _,⟨rfl,HUE.out⟩⟩ | refine bodyPost_ret (results_tmp rfl _ _ _) rfl ⟨rfl,HUE.out⟩ | exact ⟨rfl,_,rfl,rfl,HUE.out⟩ | exact ⟨by simp,.inl ⟨_,_,rfl,rfl,HUE.out⟩⟩ | (refine ⟨rfl,?_⟩;skip)
theorem pfP (l:List Int) {v:Value} (a b0 b1 b2 b3:Int) (w:World) (hv:RdO w v l) (hi:∀ x∈l,pab x) (hl:l.length≤9223372036854775807) (ha:0≤a∧a≤255) (h0:0≤b0∧b0≤255) (h1:0≤b1∧b1≤255) (h2:0≤b2∧b2≤255) (h3:0≤b3∧b3≤255) (htab:Tabs w) :
 Calls Tryz.prog 3 #[v,.int .u8 a,.agg #[.int .u8 b0,.int .u8 b1,.int .u8 b2,.int .u8 b3]] w (pmL w):=by
 obtain ⟨a,rfl⟩:∃ k:Nat,a=(k:Int):=⟨a.toNat,by omega⟩
 obtain ⟨b0,rfl⟩:∃ k:Nat,b0=(k:Int):=⟨b0.toNat,by omega⟩
 obtain ⟨b1,rfl⟩:∃ k:Nat,b1=(k:Int):=⟨b1.toNat,by omega⟩
 obtain ⟨b2,rfl⟩:∃ k:Nat,b2=(k:Int):=⟨b2.toNat,by omega⟩
 obtain ⟨b3,rfl⟩:∃ k:Nat,b3=(k:Int):=⟨b3.toNat,by omega⟩
 exact peB l v a b0 b1 b2 b3 w hv hi hl (by omega) (by omega) (by omega) (by omega) (by omega) htab
end Go.Proofs.YtheobkejohifaaaGreatDoor
