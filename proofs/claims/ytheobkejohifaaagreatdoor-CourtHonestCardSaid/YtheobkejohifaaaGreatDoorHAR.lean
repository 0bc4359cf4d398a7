/- sortesref07.Check and what follows. -/
import Derived.Test.YtheobkejohifaaaGreatDoorHAA
import Derived.Test.YtheobkejohifaaaGreatDoorHAP
import Derived.Test.YtheobkejohifaaaGreatDoorHAQ
namespace Go.Proofs.YtheobkejohifaaaGreatDoor
open Go.RowKit
set_option maxRecDepth 100000
def DsRd (w:World) (v:Value) (ds:List Dl):Prop:=∃ ao cap,v=.slice ao ds.length cap∧ds.length≤cap∧cap≤9223372036854775807∧∀ (i:Nat) d,ds[i]? =some d→∃ g c b,ao=some ⟨g,0,none⟩∧g<w.heap.size∧w.cell? ⟨g,i * 3,none⟩=some c∧w.cell? ⟨g,i * 3+1,none⟩=some (.int .i64 (d.point:Int))∧w.cell? ⟨g,i * 3+2,none⟩=some b∧Sl w c d.coms∧RdS w b d.boxes
theorem DsRd.upd {w w':World} {v:Value} {ds:List Dl} (h:DsRd w v ds) (u:Upd [] [] w w'):DsRd w' v ds:=by
 obtain ⟨ao,cap,e,h1,h2,h3⟩:=h
 refine ⟨ao,cap,e,h1,h2,fun i d hi=>?_⟩
 obtain ⟨g,c,b,e,hg,c0,c1,c2,hs,hb⟩:=h3 i d hi
 exact ⟨g,c,b,e,Nat.lt_of_lt_of_le hg u.size,(u.cell (p:=⟨g,_,none⟩) hg (by simp)).trans c0,(u.cell (p:=⟨g,_,none⟩) hg (by simp)).trans c1,(u.cell (p:=⟨g,_,none⟩) hg (by simp)).trans c2,hs.upd u,hb.upd u⟩
theorem ppW {c b:Value} {p:Int} {g o:Nat} {W:World} (h0:W.cell? ⟨g,o,none⟩=some c) (h1:W.cell? ⟨g,o+1,none⟩=some (.int .i64 p)) (h2:W.cell? ⟨g,o+2,none⟩=some b):(Instr.loadAt 153 (.pointer (some ⟨g,o,none⟩))).run Tryz.prog W=.ok (.agg (dlC c p b)) W :=
 run_loadAt_mid W g o 153 [c,.int .i64 p,b] _ (fun j v hv=>by
  match j,hv with
  | 0,hv=>simp at hv;subst hv;exact h0
  | 1,hv=>simp at hv;subst hv;exact h1
  | 2,hv=>simp at hv;subst hv;exact h2) Tryz.underlying153 rfl (by show _=some 3;kernel_rfl)
def pkm (d:Dl) (n:Nat):Prop:=(∀ x∈d.coms,memN x)∧memN d.point∧1≤d.coms.length∧d.coms.length≤n∧d.boxes.length=n∧∀ b∈d.boxes,b.length=16
set_option maxHeartbeats 1000000 in
theorem plb (c b:Value) (d:Dl) (n:Nat) (w:World) (hd:pkm d n) (hn:n≤60) (hc:Sl w c d.coms) (hb:RdS w b d.boxes):Calls Tryz.prog 162 #[.agg (dlC c (d.point:Int) b),.int .i64 (n:Int)] w (Mk (.bool true) w):=by
 obtain ⟨d1,d2,d3,d4,d5,d6⟩:=hd
 obtain ⟨g,hg⟩:∃ g,w.heap.size=g:=⟨_,rfl⟩
 obtain ⟨w0,hw0⟩:∃ W,w.alloc (.cells (dlC c (d.point:Int) b) 153)=W:=⟨_,rfl⟩
 have r0:w0.heap[g]? =some (.cells (dlC c (d.point:Int) b) 153 (0,0)):=by rw [← hg,← hw0];exact heap_alloc_new _ _
 have u0:Upd [] [] w w0:=by rw [← hw0];exact (Upd.refl _ _).alloc _
 have c0:=cell_of_row _ g 0 _ _ _ r0
 have c1:=cell_of_row _ g 1 _ _ _ r0
 have c2:=cell_of_row _ g 2 _ _ _ r0
 have hp:=d2.2.1
 have HMP:=Lib.hid (pc2 (d.point:Int) true w0 (by unfold Pn at hp;unfold pab;omega) ((pbu d.point).2 d2))
 have HMS:=Lib.hid (pem c d.coms w0 (hc.upd u0) d1 (by omega))
 have HBX:=Lib.hid (hb.upd u0)
 have HB6:=Lib.hid d6
 obtain ⟨m,hm⟩:∃ m,m=d.coms.length:=⟨_,rfl⟩
 obtain ⟨ca,cc,hcv,hcc,_⟩:=hc.form
 obtain ⟨ba,bc,hbv,hbc,_,_⟩:=hb.form
 rw [← hm] at d3 d4 hcv
 have HD5:=Lib.hid d5
 rw [d5] at hbv
 have U0:=Lib.hid u0
 subst hcv
 subst hbv
 obtain ⟨P,hP⟩:∃ P:Int,P=(d.point:Int):=⟨_,rfl⟩
 have hmn:¬ (n:Int)<(m:Int):=by omega
 have hmn2:¬ n<m:=by omega
 rw [← hP] at c1 HMP hw0 ⊢
 have c0':w0.cell? ⟨g,0,none⟩=some (.slice ca m cc):=c0
 have c1':w0.cell? ⟨g,1,none⟩=some (.int .i64 P):=c1
 have c2':w0.cell? ⟨g,2,none⟩=some (.slice ba n bc):=c2
 clear hc hb r0 u0 d1 d2 d5 d6 hm hp hP c0 c1 c2
 go_enter Tryz.func162,Tryz.ntmps162
 go_wp2_with fail
 refine HMP.out.mono ?_
 rintro e w' ⟨rfl,rfl⟩
 go_wp2_with fail
 refine HMS.out.mono ?_
 rintro e w' ⟨rfl,rfl⟩
 go_wp2_with fail
 go_loopw [4,7] (fun _ i wr=>∃ k:Nat,i=.int .i64 (k:Int)∧k≤n∧wr=w0) (fun _ i _=>n - (intOf i).toNat)
 case atStart=>exact ⟨0,rfl,Nat.zero_le _,(by first | trivial | rfl)⟩
 case round =>
  obtain ⟨k,rfl,hk,rfl⟩:=hrel
  by_cases hlt:k<n
  · obtain ⟨x,hx⟩:∃ x,d.boxes[k]? =some x:=⟨_,List.getElem?_eq_getElem (by rw [HD5.out];exact hlt)⟩
    obtain ⟨ba',bc',ebv,_,_,hbg⟩:=HBX.out.form
    obtain ⟨gb,eg,hgb,hcell⟩:=hbg k x hx
    injection ebv with eb1 eb2 eb3
    subst eb1
    subst eg
    have h16:=HB6.out x (List.mem_of_getElem? hx)
    obtain ⟨s,hs⟩:∃ s:ByteArray,s=⟨x.toArray⟩:=⟨_,rfl⟩
    have hss:s.size=16:=by rw [hs];exact h16
    have hcell2:wr.cell? ⟨gb,k,none⟩=some (.string s):=by rw [hs];exact hcell
    have i0:(0:Int)≤(k:Int):=by omega
    have i1:(k:Int)<(n:Int):=by omega
    clear hx hbg hcell hs h16 eb3
    go_wp2_with fail
    exact ⟨⟨k+1,by go_num,by omega,(by first | trivial | rfl)⟩,(by first | (simp [intOf];done) | (simp [intOf];omega))⟩
  · go_wp2_with fail
    go_ret
    exact ⟨rfl,U0.out⟩
set_option maxHeartbeats 1000000 in
theorem pmZ (v:Value) (ds:List Dl) (n:Nat) (w:World) (hv:DsRd w v ds) (hd:∀ d∈ds,pkm d n∧d.coms.length=needN n) (h1:1≤n) (h6:n≤60) (hl:1≤ds.length) (hl2:ds.length≤1000):Calls Tryz.prog 113 #[v,.int .i64 (n:Int)] w (Mk (.bool true) w):=by
 obtain ⟨ao,cap,rfl,c1,c2,hget⟩:=hv
 have hv:DsRd w (.slice ao ds.length cap) ds:=⟨ao,cap,rfl,c1,c2,hget⟩
 have HV:=Lib.hid hv
 have HD:=Lib.hid hd
 obtain ⟨m,hm⟩:∃ m,m=ds.length:=⟨_,rfl⟩
 have HM:=Lib.hid hm
 rw [← hm] at c1 hl hl2 HV
 rw [← hm]
 clear hget hv hd hm
 go_enter Tryz.func113,Tryz.ntmps113
 go_wp2_with fail
 go_loopw [4,5,6] (fun _ i _ wr=>∃ k:Nat,i=.int .i64 (k:Int)∧k≤m∧Hid (Upd [] [] w wr)) (fun _ i _ _=>m - (intOf i).toNat)
 case atStart=>exact ⟨0,rfl,Nat.zero_le _,Upd.refl _ _⟩
 case round =>
  obtain ⟨k,rfl,hk,HU⟩:=hrel
  by_cases hlt:k<m
  · obtain ⟨d,hdk⟩:∃ d,ds[k]? =some d:=⟨_,List.getElem?_eq_getElem (by rw [← HM.out];exact hlt)⟩
    have hdm:=HD.out d (List.mem_of_getElem? hdk)
    obtain ⟨ao',cap',ev,_,_,hget⟩:=HV.out.upd HU.out
    obtain ⟨g,c,b,eg,hg,q0,q1,q2,hs,hb⟩:=hget k d hdk
    injection ev with e1 e2 e3
    subst e1
    subst eg
    have HLD:=Lib.hid (ppW q0 q1 q2)
    have HCK:=Lib.hid (plb c b d n wr hdm.1 h6 hs hb)
    obtain ⟨ca,cc,hcv,_,_⟩:=hs.form
    obtain ⟨q,hq⟩:∃ q,q=needN n:=⟨_,rfl⟩
    rw [hdm.2,← hq] at hcv
    have HK:Hid (∀ W,Upd [] [] wr W→W.cell? ⟨g,k * 3,none⟩=some (.slice ca q cc)):=fun W u=>(u.cell (p:=⟨g,k * 3,none⟩) hg (by simp)).trans (by rw [q0,hcv])
    have HND:Hid (∀ W,Calls Tryz.prog 44 #[.int .i64 (n:Int)] W (Ret (.int .i64 (q:Int)) W)):=fun W=>by rw [hq];exact pdG n W h1 (by omega)
    obtain ⟨DV,hDV⟩:∃ DV,DV=dlC c (d.point:Int) b:=⟨_,rfl⟩
    rw [← hDV] at HLD HCK
    have i0:(0:Int)≤(k:Int):=by omega
    have i1:(k:Int)<(m:Int):=by omega
    clear hdk hdm hget hg q0 q1 q2 hs hb hcv hq hDV e2 e3
    go_wp2_with (refine wpList_load_atW rfl 153 _ rfl g (k * 3) rfl DV HLD.out ?_)
    refine HCK.out.mono ?_
    rintro e w2 ⟨rfl,hu⟩
    have HU2:=Lib.hid (HU.out.trans hu)
    have HK2:Hid (∀ W,Upd [] [] w2 W→W.cell? ⟨g,k * 3,none⟩=some (.slice ca q cc)):=fun W u=>HK.out W (hu.trans u)
    have ud0:Upd [] [] w2 w2.drew:=(Upd.refl _ _).drew
    clear hu HCK HLD HK HU
    go_upto_region 5 with (fail)
    refine wp_region_noPanic ?_
    refine wp_region_held_drew (S:=fun wp=>wp.cell? ⟨g,k * 3,none⟩=some (.slice ca q cc)) (by kernel_rfl) ?_ (fun hHeld=>?_)
    · exact HK2.out _ ud0
    refine tkY 0 hHeld ?_
    refine tkY 1 hHeld ?_
    refine tkY 2 hHeld ?_
    refine tkY 3 hHeld ?_
    refine tkY 4 hHeld ?_
    refine tkY 5 hHeld ?_
    refine tkY 6 hHeld ?_
    refine tkY 7 hHeld ?_
    refine tkY 8 hHeld ?_
    refine tkY 9 hHeld ?_
    refine tk1 10 fun K hK=>?_
    rw [if_pos (by rfl)];go_simp;refine (HND.out _).mono ?_;rintro e wv1 ⟨rfl,rfl⟩;go_wp2_with fail
    refine tkK hK (HK2.out _ ud0) fun hHeld=>?_
    clear hK K
    refine tkY 11 hHeld ?_
    refine tkY 12 hHeld ?_
    refine wpAnyH_done (by kernel_rfl) ?_ _
    refine NoPanic.normal ?_
    go_wp2_with fail
    exact ⟨⟨k+1,by go_num,by omega,HU2.out.drew⟩,(by first | (simp [intOf];done) | (simp [intOf];omega))⟩
  · have hm0:(0:Int)<(m:Int):=by omega
    have hm1:0<m:=by omega
    go_wp2_with fail
    go_ret
    exact ⟨by simp,HU.out⟩
def mixN (ds:List Dl) (j:Nat):Nat:=ds.foldl (fun c d=>c * pP (d.coms.getD j 0) 1 % Pn) 1
def mixL (ds:List Dl) (need:Nat):List Nat:=(List.range need).map (mixN ds)
theorem pm0 (ds:List Dl) (k:Nat):mixL ds (k+1)=mixL ds k ++ [mixN ds k]:=by simp [mixL,List.range_succ]
theorem peL (ds:List Dl) (k:Nat):(mixL ds k).length=k:=by simp [mixL]
theorem pm1 {ds:List Dl} {j k:Nat} {d:Dl} (h:ds[k]? =some d):mixN (ds.take (k+1)) j=mixN (ds.take k) j * pP (d.coms.getD j 0) 1 % Pn:=by
 unfold mixN
 rw [List.take_add_one,h]
 simp
set_option maxHeartbeats 2000000 in
theorem plc (v pv:Value) (ds:List Dl) (need:Nat) (w:World) (hv:DsRd w v ds) (hp:Sl w pv (List.replicate ds.length 1)) (hd:∀ d∈ds,d.coms.length=need∧∀ x∈d.coms,x<Pn) (hn:need≤1000) (hl2:ds.length≤1000) :
 Calls Tryz.prog 115 #[v,pv,.int .i64 (need:Int)] w (fun e w'=>∃ u:Value,Hid (∀ W,paB w w' W→Sl W u (mixL ds need))∧e=.returned u∧Upd [] [] w w'):=by
 obtain ⟨ao,cap,rfl,c1,c2,hget⟩:=hv
 have hv:DsRd w (.slice ao ds.length cap) ds:=⟨ao,cap,rfl,c1,c2,hget⟩
 obtain ⟨pa,pc,hpv,p1,p2⟩:=hp.form
 have hlr:(List.replicate ds.length 1:List Nat).length=ds.length:=by simp
 rw [hlr] at hpv p1
 have HV:=Lib.hid hv
 have HD:=Lib.hid hd
 subst hpv
 obtain ⟨m,hm⟩:∃ m,m=ds.length:=⟨_,rfl⟩
 have HM:=Lib.hid hm
 have HP:=Lib.hid hp
 rw [← hm] at c1 hl2 HV HP p1
 rw [← hm]
 clear hget hv hd hm hp hlr
 go_enter Tryz.func115,Tryz.ntmps115
 go_wp2_with fail
 go_loopw [7,8,9,10] (fun u j _ _ wr=>∃ k:Nat,j=.int .i64 (k:Int)∧k≤need∧Hid (wr.ownsRow 0 3 1 u k (pah (mixL ds k)))∧Hid (Upd [] [] w wr)∧Hid (∀ x,x∈foot u→w.heap.size≤x)) (fun _ j _ _ _=>need - (intOf j).toNat)
 case atStart=>exact ⟨0,rfl,Nat.zero_le _,World.ownsRow_nil _ _ _ _,Upd.refl _ _,(fun x hx=>by cases hx)⟩
 case round =>
  obtain ⟨j,rfl,hj,HR,HU,HF⟩:=hrel
  by_cases hlj:j<need
  · have j1:(j:Int)<(need:Int):=by omega
    obtain ⟨w1,hw1⟩:∃ W,W=wr:=⟨_,rfl⟩
    have HWE:=Lib.hid hw1
    go_wp2_with fail
    go_loopw [9,10] (fun c i wr'=>∃ k r:Nat,i=.int .i64 (k:Int)∧k≤m∧c=.int .i64 (r:Int)∧r<2305843009213691579∧Hid (r=mixN (ds.take k) j)∧Hid (Upd [] [] w1 wr')) (fun _ i _=>m - (intOf i).toNat)
    case atStart=>exact ⟨0,1,rfl,Nat.zero_le _,rfl,by omega,rfl,(by show Upd [] [] w1 _;rw [hw1];exact Upd.refl _ _)⟩
    case round =>
     obtain ⟨k,r,rfl,hk,rfl,hr,HRR,HU1⟩:=hrel
     have HUW:Hid (Upd [] [] w wr):=by
      have h:=HU.out
      rw [← HWE.out] at h
      exact h.trans HU1.out
     by_cases hlt:k<m
     · obtain ⟨d,hdk⟩:∃ d,ds[k]? =some d:=⟨_,List.getElem?_eq_getElem (by rw [← HM.out];exact hlt)⟩
       have hdm:=HD.out d (List.mem_of_getElem? hdk)
       obtain ⟨ao',cap',ev,_,_,hget⟩:=HV.out.upd HUW.out
       obtain ⟨g,c,b,eg,hg,q0,q1,q2,hs,hb⟩:=hget k d hdk
       injection ev with e1 e2 e3
       subst e1
       subst eg
       obtain ⟨a,ha⟩:∃ a,d.coms[j]? =some a:=⟨_,List.getElem?_eq_getElem (by rw [hdm.1];exact hlj)⟩
       obtain ⟨ca,cc,rfl,k1,k2⟩:=hs.form
       obtain ⟨cb,rfl,hcell⟩:=hs.get ha
       rw [hdm.1] at q0 k1
       obtain ⟨pb,rfl,hone⟩:=(HP.out.upd HUW.out).get (k:=k) (d:=1) (by rw [List.getElem?_replicate];simp [hlt])
       have hab:=hdm.2 a (List.mem_of_getElem? ha)
       have hab2:a≤9223372036854775807:=by unfold Pn at hab;omega
       have HSTEP:Hid (mixN (ds.take (k+1)) j=mixN (ds.take k) j * pP a 1 % Pn):=by
        show _=_
        rw [pm1 hdk,List.getD_eq_getElem?_getD,ha]
        rfl
       have hcl:cb<wr.heap.size:=World.block_lt_of_cell? _ _ hcell
       have hpl:pb<wr.heap.size:=World.block_lt_of_cell? _ _ hone
       have HK:Hid (∀ W,Upd [] [] wr W→W.cell? ⟨g,k * 3,none⟩=some (.slice (some ⟨cb,0,none⟩) need cc)∧W.cell? ⟨cb,j,none⟩=some (.int .i64 (a:Int))∧W.cell? ⟨pb,k,none⟩=some (.int .i64 1)):=fun W u =>
        ⟨(u.cell (p:=⟨g,k * 3,none⟩) hg (by simp)).trans q0,(u.cell (p:=⟨cb,j,none⟩) hcl (by simp)).trans hcell,(u.cell (p:=⟨pb,k,none⟩) hpl (by simp)).trans hone⟩
       have ud0:Upd [] [] wr wr.drew:=(Upd.refl _ _).drew
       have i0:(0:Int)≤(k:Int):=by omega
       have i1:(k:Int)<(m:Int):=by omega
       have j0:(0:Int)≤(j:Int):=by omega
       have hr2:r≤9223372036854775807:=by omega
       clear hdk hdm hget hg q0 q1 q2 hs hb hcell hone hab ha e2 e3 hcl hpl
       go_upto_region 9 with (fail)
       refine wp_region_noPanic ?_
       refine wp_region_held_drew (S:=fun wp=>wp.cell? ⟨g,k * 3,none⟩=some (.slice (some ⟨cb,0,none⟩) need cc)∧wp.cell? ⟨cb,j,none⟩=some (.int .i64 (a:Int))∧wp.cell? ⟨pb,k,none⟩=some (.int .i64 1)) (by kernel_rfl) ?_ (fun hHeld=>?_)
       · exact HK.out _ ud0
       refine tkY 0 hHeld ?_
       refine tkY 1 hHeld ?_
       refine tkY 2 hHeld ?_
       refine tkY 3 hHeld ?_
       refine tkY 4 hHeld ?_
       refine tkY 5 hHeld ?_
       refine tkY 6 hHeld ?_
       refine tkY 7 hHeld ?_
       refine tkY 8 hHeld ?_
       refine tkY 9 hHeld ?_
       refine tkY 10 hHeld ?_
       refine tkY 11 hHeld ?_
       refine tkY 12 hHeld ?_
       refine tk1 13 fun K hK=>?_
       go_simp;refine (pcJ a 1 _ _ hab2 (by omega) rfl).mono ?_;rintro e wv1 ⟨y,HY,hy,rfl,rfl⟩;go_wp2_with fail
       refine tkK hK (HK.out _ ud0) fun hHeld=>?_
       clear hK K
       refine tk1 14 fun K hK=>?_
       go_simp;refine (pmO r y _ hr2 (by omega)).mono ?_;rintro e wv2 ⟨z,HZ,hz,rfl,rfl⟩;go_wp2_with fail
       refine tkK hK (HK.out _ ud0) fun hHeld=>?_
       clear hK K
       refine tkY 15 hHeld ?_
       refine wpAnyH_done (by kernel_rfl) ?_ _
       refine NoPanic.normal ?_
       go_wp2_with fail
       exact ⟨⟨k+1,z,by go_num,by omega,by go_num,hz,(by show _=_;rw [HSTEP.out,HZ.out,HY.out,HRR.out];rfl),HU1.out.drew⟩,(by first | (simp [intOf];done) | (simp [intOf];omega))⟩
     · obtain rfl:k=m:=by omega
       have hrr:r=mixN ds j:=by rw [HRR.out,HM.out,List.take_length]
       have HRW:Hid (wr.ownsRow 0 3 1 u7 j (pah (mixL ds j))):=by
        have h:=HR.out
        rw [← HWE.out] at h
        exact pai h (fun x hx=>HU1.out.block x (paf h x hx) (by simp))
       obtain ⟨u',w',hrun,hown',hup'⟩:=pa2 wr u7 (mixL ds j) j r (peL ds j) HRW.out (by omega)
       rw [hrr,← pm0] at hown'
       have HRN:=Lib.hid hrun
       have HOW:=Lib.hid hown'
       have HU2:=Lib.hid (HUW.out.past2 hup' HF.out)
       have HF2:Hid (∀ x,x∈foot u'→w.heap.size≤x):=fun x hx=>by
        rcases hup'.new x hx with q | q
        · exact HF.out x q
        · have:=HUW.out.size;omega
       clear hrun hown' hup' hrr HRW HR HU HWE hw1 HU1 HUW
       go_wp2_with (refine wpList_append_run _ rfl _ _ _ _ rfl _ _ u' w' rfl rfl HRN.out ?_)
       exact ⟨⟨j+1,by go_num,by omega,HOW.out,HU2.out,HF2.out⟩,(by first | (simp [intOf];done) | (simp [intOf];omega))⟩
  · obtain rfl:j=need:=by omega
    have HS:Hid (∀ W,paB w wr W→Sl W u7 (mixL ds j)):=fun W hW=>Sl.of_digs (peL ds j) (pai HR.out (fun x hx=>hW x (HF.out x hx) (paf HR.out x hx)))
    go_wp2_with fail
    go_ret
    exact ⟨_,HS,rfl,HU.out⟩
theorem pds {w w':World} {e:TypeId} {s n:Nat} {v:Value} {xs:List Value} (h:w.ownsRow 0 e s v n xs) (u:Upd [] [] w w'):w'.ownsRow 0 e s v n xs:=pai h (fun x hx=>u.block x (paf h x hx) (by simp))
theorem pfm {ws:List Nat}:(pbv ws).length=ws.sum:=by
 rw [← pf9,pd4 ws ws.length 0 (Nat.le_refl _),List.take_length]
 rfl
theorem pcA {ws:List Nat}:∀ x∈pbv ws,memN x:=by
 intro x hx
 simp only [pbv,List.mem_flatMap,List.mem_replicate] at hx
 obtain ⟨i,_,_,rfl⟩:=hx
 exact pe0 _
theorem phS (v:Value) (ws:List Nat) (w:World) (hw:WsOk ws) (h:pb7 w v ws) :
 Calls Tryz.prog 109 #[v] w (fun e w'=>∃ u:Value,Hid (Sl w' u (pbv ws))∧e=.returned u∧Upd [] [] w w'):=by
 refine (pk7 v ws w hw h).mono ?_
 rintro e w' ⟨u,HR,rfl,HU⟩
 exact ⟨u,Sl.of_row HR.out,rfl,HU.out.mono (fun _ h=>h) (fun _ h=>absurd h (by simp))⟩
theorem poy (seed:ByteArray) (need:Nat) (w:World) (hs:seed.size≤1000000) (hn:need≤1000) :
 Calls Tryz.prog 47 #[.string seed,.int .i64 (need:Int)] w (fun e w'=>∃ u:Value,Hid (Sl w' u (pch (bs seed) need))∧e=.returned u∧Upd [] [] w w'):=by
 refine (phP seed need w hs hn).mono ?_
 rintro e w' ⟨u,HR,rfl,HU⟩
 exact ⟨u,Sl.of_digs (pbY _ _) HR.out,rfl,HU.out.mono (fun _ h=>h) (fun _ h=>absurd h (by simp))⟩
def sdL (seed:List UInt8) (i:Nat):List UInt8:=seed ++ [32] ++ Lib.itoa ((i+1:Nat):Int)
def dlAt (ws:List Nat) (seed:List UInt8) (i:Nat):Dl:=pda (pch (sdL seed i) (needN ws.sum)) (pbv ws) (sdL seed i)
def dsN (ws:List Nat) (seed:List UInt8) (k:Nat):List Dl:=(List.range k).map (dlAt ws seed)
theorem pgS (ws:List Nat) (seed:List UInt8) (k:Nat):dsN ws seed (k+1)=dsN ws seed k ++ [dlAt ws seed k]:=by simp [dsN,List.range_succ]
theorem pm2 (ws:List Nat) (seed:List UInt8) (k:Nat):(dsN ws seed k).length=k:=by simp [dsN]
theorem dlI:∃ i,Tryz.prog.info? 153=some i∧i.zero=some (.agg dlZ)∧i.size=3∧i.bytes=56:=by
 have h:(Tryz.prog.info? 153).map (fun i=>(i.zero,i.size,i.bytes))=some (some (.agg dlZ),3,56):=by kernel_rfl
 obtain ⟨i,hi,he⟩:=Option.map_eq_some_iff.1 h
 simp only [Prod.mk.injEq] at he
 exact ⟨i,hi,he.1,he.2.1,he.2.2⟩
theorem pm3 (wr:World) (v:Value) (ds:List Dl) (cb:List (Value × Value)) (k:Nat) (d:Dl) (c b:Value) (hcb:cb.length=ds.length) (hown:wr.ownsRow 0 153 3 v k (pb5 ds cb)) (hb:k≤1000000) (h1:c.oneCell'=true) (h2:b.oneCell'=true) :
 ∃ v' w',(Builtin.append_ #[107,107] 107 #[v,.slice (some ⟨wr.heap.size,0,none⟩) 1 1]).run Tryz.prog (wr.alloc (.cells (dlC c (d.point:Int) b) 153))=.ok v' w'∧w'.ownsRow 0 153 3 v' (k+1) (pb5 (ds ++ [d]) (cb ++ [(c,b)]))∧Upd (foot v) (foot v') wr w':=by
 obtain ⟨iu,u1,u2,u3,u4⟩:=dlI
 have h:=pcj (P:=Tryz.prog) 107 153 iu _ 3 56 Tryz.underlying107 u1 u2 u3 u4 rfl (by omega) (by omega) wr v k (pb5 ds cb) [c,.int .i64 (d.point:Int),b] rfl (by intro u hu;simp at hu;rcases hu with e | e | e <;> rw [e] <;> first | exact h1 | exact h2 | rfl) hown hb
 rw [pfe d (c,b) hcb]
 exact h
theorem poz:(Array.range (1 * 3)).map (dlZ[· % dlZ.size]!)=dlZ:=by kernel_rfl
theorem poA (c b:Value) (p:Int) (w:World):(Instr.buildSlice 107 1 #[(0,.agg (dlC c p b))]).run Tryz.prog w=.ok (.slice (some ⟨w.heap.size,0,none⟩) 1 1) (w.alloc (.cells (dlC c p b) 153)):=by
 obtain ⟨ie,hi,hz,hs,_⟩:=dlI
 refine run_buildSlice w 107 153 1 _ (dlC c p b) ie _ Tryz.underlying107 hi hz (by rw [hs];omega) (by rw [hs];omega) ?_
 rw [hs]
 show Instr.fill _ ((Array.range (1 * 3)).map (dlZ[· % dlZ.size]!)) [(0,Value.agg (dlC c p b))]=_
 rw [poz]
 have h:=pou (pl:=fun i=>some (i * 3,3)) (i:=0) (off:=0) (n:=3) (v:=.agg (dlC c p b)) (V:=[c,.int .i64 p,b]) (A:=[]) (B:=[.slice none 0 0,.int .i64 0,.slice none 0 0]) (C:=[]) (r:=[]) rfl rfl rfl rfl rfl
 rw [List.nil_append,List.append_nil,List.nil_append,List.append_nil] at h
 exact h.trans rfl
theorem prx {w:World} {v:Value} {F:List Nat} {ds:List Dl} {cb:List (Value × Value)} {n:Nat} (hn:ds.length=n) (h:w.ownsRow 0 153 3 v n (pb5 ds cb)) (hd:DsIs w F ds cb):DsRd w v ds:=by
 subst hn
 have hm:maxLen≤9223372036854775807:=by unfold maxLen;omega
 by_cases h0:ds.length=0
 · obtain ⟨ao,cap,rfl,h1,h2⟩:=paj h
   exact ⟨ao,cap,rfl,h1,by omega,fun i l hi=>by have:=(List.getElem?_eq_some_iff.1 hi).1;omega⟩
 · obtain ⟨g,cap,cur,rfl,hg,h1,h2,h3,h4⟩:=pcd h (by omega)
   refine ⟨_,cap,rfl,h1,by omega,fun i d hi=>?_⟩
   have hil:=(List.getElem?_eq_some_iff.1 hi).1
   obtain ⟨p,hp⟩:∃ p,cb[i]? =some p:=⟨_,List.getElem?_eq_getElem (by rw [hd.1];omega)⟩
   obtain ⟨r1,r2,_⟩:=hd.2 i d p hi hp
   obtain ⟨a0,a1,a2⟩:=pf5 i d p hi hp
   rw [← h4,List.getElem?_take_of_lt (by omega)] at a0 a1 a2
   exact ⟨g,p.1,p.2,rfl,pag hg,(cell_of_row w g (i * 3) _ _ _ hg).trans (by simpa using a0),(cell_of_row w g (i * 3+1) _ _ _ hg).trans (by simpa using a1),(cell_of_row w g (i * 3+2) _ _ _ hg).trans (by simpa using a2),Sl.of_row r1,RdS.of_row r2⟩
def poB (B:Nat) (w:World) (u:Value) (ds:List Dl):Prop:=∃ cb:List (Value × Value),w.ownsRow 0 153 3 u ds.length (pb5 ds cb)∧DsIs w (foot u ++ List.range B) ds cb∧∀ x,x∈foot u→B≤x
theorem poB.rd {B:Nat} {w:World} {u:Value} {ds:List Dl} (h:poB B w u ds):DsRd w u ds:=by
 obtain ⟨cb,h1,h2,_⟩:=h
 exact prx rfl h1 h2
set_option maxHeartbeats 4000000 in
theorem pgT (v:Value) (ws:List Nat) (seed:ByteArray) (w:World) (hw:WsOk ws) (h:pb7 w v ws) (hs:seed.size≤100000) :
 Calls Tryz.prog 46 #[v,.string seed] w (fun e w'=>∃ u:Value,Hid (∀ W,paB w w' W→poB w.heap.size W u (dsN ws (bs seed) ws.length))∧e=.returned u∧Upd [] [] w w'):=by
 have HCR0:=Lib.hid h
 have HWS:=Lib.hid hw
 obtain ⟨ao,cap,rfl,h1,h2,h3⟩:=h
 have HM:=Lib.hid h3
 obtain ⟨n,hn⟩:∃ n,n=ws.length:=⟨_,rfl⟩
 have HN:=Lib.hid hn
 have hn4:n≤4:=by rw [hn];exact hw.2.1
 obtain ⟨S,hS⟩:∃ S,S=ws.sum:=⟨_,rfl⟩
 have HS:=Lib.hid hS
 have hs12:1≤S∧S≤12:=by rw [hS];exact hw.sum
 rw [← hn] at h1 HCR0 ⊢
 have h32:(ByteArray.mk #[32]).size=1:=rfl
 clear hn h3 hw hS
 go_enter Tryz.func46,Tryz.ntmps46
 go_wp2_with fail
 go_loopw [5,6,7,8,9] (fun u i _ _ _ wr=>∃ (k:Nat) (cb:List (Value × Value)),i=.int .i64 (k:Int)∧k≤n∧Hid (wr.ownsRow 0 153 3 u k (pb5 (dsN ws (bs seed) k) cb))∧Hid (DsIs wr (foot u ++ List.range w.heap.size) (dsN ws (bs seed) k) cb)∧Hid (Upd [] [] w wr)∧Hid (∀ x,x∈foot u→w.heap.size≤x)) (fun _ i _ _ _ _=>n - (intOf i).toNat)
 case atStart=>exact ⟨0,[],rfl,Nat.zero_le _,World.ownsRow_nil _ _ _ _,DsIs.nil _ _,Upd.refl _ _,(fun x hx=>by cases hx)⟩
 case round =>
  obtain ⟨k,cb,rfl,hk,HR,HD,HU,HF⟩:=hrel
  by_cases hlt:k<n
  · obtain ⟨z,hz⟩:∃ z,ws[k]? =some z:=⟨_,List.getElem?_eq_getElem (by rw [← HN.out];exact hlt)⟩
    obtain ⟨g,rfl,hg,c0,c1,c2⟩:=(HM.out.upd HU.out) k _ (pbb hz)
    dsimp only [memC] at c0 c1 c2
    obtain ⟨I,hI⟩:∃ I,I=k+1:=⟨_,rfl⟩
    rw [← hI] at c0
    have HI:=Lib.hid hI
    have HC0:=Lib.hid c0
    have hI4:I≤4:=by omega
    have hitl:(Lib.itoa (I:Int)).length≤20:=itoa_len (I:Int) (by unfold pab;omega)
    have i0:(0:Int)≤(k:Int):=by omega
    have i1:(k:Int)<(n:Int):=by omega
    clear hz c1 c2 hI
    go_wp2_with fail
    refine (pb0 I wr (by omega)).mono ?_
    rintro e w2 ⟨y,HY,hy,rfl,hq⟩
    have U2:=Lib.hid hq
    clear hq
    go_wp2_with fail
    refine (pcY _ ws w2 HWS.out (HCR0.out.upd (HU.out.trans U2.out))).mono ?_
    rintro e w3 ⟨rfl,hq⟩
    have U3:=Lib.hid (U2.out.trans hq)
    rw [← HS.out]
    clear hq U2
    go_wp2_with fail
    refine (pdG S w3 hs12.1 (by omega)).mono ?_
    rintro e w' ⟨rfl,rfl⟩
    obtain ⟨q,hq⟩:∃ q,q=needN S:=⟨_,rfl⟩
    have hq12:1≤q∧q≤S:=by rw [hq];exact pcg hs12.1
    have HQ:=Lib.hid hq
    rw [← hq]
    clear hq
    have hsd:(seed ++ ⟨#[32]⟩ ++ y).size≤1000000:=by simp [ByteArray.size_append];omega
    obtain ⟨sd,hsd2⟩:∃ sd,sd=seed ++ ⟨#[32]⟩ ++ y:=⟨_,rfl⟩
    have hsd3:seed ++ ⟨#[32]⟩ ++ y=sd:=hsd2.symm
    have HSD:Hid (bs sd=sdL (bs seed) k):=by
     show _=_
     rw [hsd2,pae,pae,HY.out]
     unfold sdL
     rw [HI.out]
     rfl
    rw [← hsd2] at hsd
    clear hsd2
    go_wp2_with fail
    refine (poy sd q w3 hsd (by omega)).mono ?_
    rintro e w4 ⟨pv,HPV,rfl,hq⟩
    have U4:=Lib.hid (U3.out.trans hq)
    clear hq U3 hsd3 HY hy
    have HPV4:=HPV
    have HU4:=Lib.hid (HU.out.trans U4.out)
    have HR4:=Lib.hid (pds HR.out U4.out)
    have HD4:Hid (DsIs w4 (foot u5 ++ List.range w.heap.size) (dsN ws (bs seed) k) cb):=HD.out.keep (fun x hx hn=>⟨Nat.lt_of_lt_of_le hx U4.out.size,hn,U4.out.block x hx (by simp)⟩)
    have HC4:=Lib.hid ((U4.out.cell (p:=⟨g,k * 3,none⟩) hg (by simp)).trans HC0.out)
    have HCR4:=Lib.hid (HCR0.out.upd HU4.out)
    have hg4:g<w4.heap.size:=Nat.lt_of_lt_of_le hg U4.out.size
    have HG4:=Lib.hid hg4
    have HK:Hid (∀ W,Upd [] [] w4 W→W.cell? ⟨g,k * 3,none⟩=some (.int .i64 (I:Int))):=fun W u=>(u.cell (p:=⟨g,k * 3,none⟩) HG4.out (by simp)).trans HC4.out
    have HKL:Hid (1≤(pch (bs sd) q).length∧(pch (bs sd) q).length≤(pbv ws).length∧(pbv ws).length≤60):=by
     show _∧_∧_
     rw [pbY,pfm,← HS.out]
     omega
    have HDA:Hid (pda (pch (bs sd) q) (pbv ws) (bs sd)=dlAt ws (bs seed) k):=by
     show _=_
     unfold dlAt
     rw [HSD.out,HQ.out,HS.out]
    have hsz1:¬ 9223372036854775807<seed.size+1:=by omega
    have ud0:Upd [] [] w4 w4.drew:=(Upd.refl _ _).drew
    clear HU HR HD c0 hg hg4 U4
    go_wp2_with fail
    go_upto_region 6 with (fail)
    refine @_root_.id ((∀ (y2:ByteArray) (bx c b:Value) (DV:Array Value) (gD:Nat) (W:World),Hid (DV=dlC c ((dlAt ws (bs seed) k).point:Int) b)→Hid (W.heap[gD]? =some (.cells DV 153 (0,0)))→Hid (W.ownsRow 0 3 1 c (dlAt ws (bs seed) k).coms.length (pah (dlAt ws (bs seed) k).coms))→Hid (paN W b (dlAt ws (bs seed) k).boxes)→Hid (∀ x,x∈foot c∨x∈foot b→w4.heap.size≤x)→Hid (c.oneCell'=true∧b.oneCell'=true)→Hid (Upd [] [] w4 W)→(?pj1:ByteArray→Value→Value→Value→Array Value→Nat→World→Prop) y2 bx c b DV gD W)→_) (fun hJ=>?mj1) ?jj1
    case mj1 =>
     refine wp_region_noPanic ?_
     refine wp_region_held_drew (S:=fun wp=>wp.cell? ⟨g,k * 3,none⟩=some (.int .i64 (I:Int))) (by kernel_rfl) ?_ (fun hHeld=>?_)
     · exact HK.out _ ud0
     refine tkY 0 hHeld ?_
     refine tkY 1 hHeld ?_
     refine tkY 3 hHeld ?_
     refine tkY 4 hHeld ?_
     refine tkY 5 hHeld ?_
     refine tkY 6 hHeld ?_
     refine tkY 7 hHeld ?_
     refine tkY 8 hHeld ?_
     refine tkY 9 hHeld ?_
     refine tkA [2,16] ?_
     refine tkC (fun K hK=>?_) ?_
     · go_simp;refine (phS _ ws _ HWS.out (HCR4.out.upd ud0)).mono ?_;rintro e wv1 ⟨bx,HBX,rfl,hq⟩;have ud1:=ud0.trans hq;have bx_1:=HBX;clear hq HBX;go_wp2_with fail
       refine tkK hK (HK.out _ ud1) fun hHeld=>?_
       clear hK K
       refine tkA [10,16] ?_
       refine tkC (fun K hK=>?_) ?_
       · go_simp;refine (pb0 I _ (by omega)).mono ?_;rintro e wv2 ⟨y2,HY2,hy2,rfl,hq⟩;have ud2:=ud1.trans hq;have bx_2:=Lib.hid (bx_1.out.upd hq);have hsz2:¬ 9223372036854775807<seed.size+1+y2.size:=(by omega);clear hq;go_wp2_with fail
         refine tkK hK (HK.out _ ud2) fun hHeld=>?_
         clear hK K
         refine tkY 11 hHeld ?_
         refine tkA [12,16] ?_
         refine tkC (fun K hK=>?_) ?_
         · go_simp;have hse:seed ++ ⟨#[32]⟩ ++ y2=sd:=pgO (by rw [HSD.out,pae,pae,HY2.out];unfold sdL;rw [← HI.out];rfl);rw [hse];refine (pdM pv bx _ _ sd _ (HPV4.out.upd ud2) bx_2.out (fun c hc=>pdB c hc) pcA HKL.out.1 HKL.out.2.1 HKL.out.2.2 hsd).mono ?_;rintro e wv3 ⟨c,b,HRC,HRB,HFO,rfl,hq⟩;have ud3:=ud2.trans hq;have bx_3:=Lib.hid (bx_2.out.upd hq);rw [HDA.out] at HRC HRB ⊢;have rc_3:=HRC;have rb_3:=HRB;have HNW:Hid (∀ x,x∈foot c∨x∈foot b→w4.heap.size≤x):=fun x hx=>Nat.le_trans ud2.size (HFO.out x hx);obtain ⟨DV,hDV⟩:∃ DV,DV=dlC c ((dlAt ws (bs seed) k).point:Int) b:=⟨_,rfl⟩;have HDV:=Lib.hid hDV;rw [← hDV];have HI3:Hid ((Tryz.prog.info? 153).map (·.size)=some DV.size):=(by rw [hDV];exact pcm _ _ _);have HZ3:Hid (dlZ.size=DV.size):=(by show _=_;rw [hDV];rfl);obtain ⟨aoc,capc,hc0,hc1,hc2⟩:=paj HRC.out;obtain ⟨aob,capb,hb0,hb1,hb2⟩:=paj HRB.out;have HO3:Hid (DV.all (·.oneCell')=true):=(by show _=_;rw [hDV,hc0,hb0];simp [dlC,Value.oneCell']);have HON:Hid (c.oneCell'=true∧b.oneCell'=true):=(by rw [hc0,hb0];exact ⟨rfl,rfl⟩);clear hDV hc0 hc1 hc2 hb0 hb1 hb2 HRC HRB HFO hq hse;go_wp2_with fail
           refine tkK hK (HK.out _ ud3) fun hHeld=>?_
           clear hK K
           refine tkY 13 hHeld ?_
           refine tkY 14 hHeld ?_
           refine tkY 15 hHeld ?_
           refine tk1 16 fun K hK=>?_
           go_simp;obtain ⟨gD,wv4,hgx,hwx,fD_4,hq⟩:=paw (wv3) (.cells dlZ 153);have hwx':wv4=(wv3).alloc (.cells #[.slice none 0 0,.int .i64 0,.slice none 0 0] 153):=hwx;rw [← hgx,← hwx'];have bD:w4.heap.size≤gD:=(by have:=ud3.size;omega);have ud4:=ud3.trans hq;have rc_4:=Lib.hid (pds rc_3.out hq);have rb_4:=Lib.hid (pds rb_3.out hq);have HNE:Hid (∀ x,x∈foot c∨x∈foot b→x≠gD):=fun x hx e=>(by have h1:x<wv3.heap.size:=(hx.elim (fun h=>paf rc_3.out x h) (fun h=>paf rb_3.out x h));omega);clear hgx hwx hwx' hq
           refine tkK hK (HK.out _ ud4) fun hHeld=>?_
           clear hK K
           refine tk1 17 fun K hK=>?_
           rw [if_pos (by rfl)];refine wp_store_row 153 _ _ rfl gD DV rfl rfl _ _ fD_4.out HI3.out HZ3.out HO3.out ?_;obtain ⟨wv5,hwx⟩:∃ W':World,W'=wv4.setRow gD DV:=⟨_,rfl⟩;have fD_5:Hid (wv5.heap[gD]? =some (.cells DV 153 (0,0))):=(by show _=_;rw [hwx];exact setRow_heap _ _ _ _ _ _ fD_4.out);have rc_5:Hid (wv5.ownsRow 0 3 1 c (dlAt ws (bs seed) k).coms.length (pah (dlAt ws (bs seed) k).coms)):=(by rw [hwx];exact pai rc_4.out (fun x hx=>setRow_other _ _ _ _ (HNE.out x (.inl hx))));have rb_5:Hid (paN wv5 b (dlAt ws (bs seed) k).boxes):=(by rw [hwx];exact pai rb_4.out (fun x hx=>setRow_other _ _ _ _ (HNE.out x (.inr hx))));have ud5:=ud4.setRowNew bD DV;rw [← hwx] at ud5 ⊢;clear hwx
           refine tkK hK (HK.out _ ud5) fun hHeld=>?_
           clear hK K
           refine tkY 18 hHeld ?_
           refine wpAnyH_done (by kernel_rfl) ?_ _
           refine NoPanic.normal ?_
           exact hJ y2 bx c b DV gD wv5 HDV fD_5 rc_5 rb_5 HNW HON (Lib.hid ud5)
         refine tkZ fun K hK=>?_
         go_simp;obtain ⟨gD,wv3,hgx,hwx,fD_3,hq⟩:=paw (wv2) (.cells dlZ 153);have hwx':wv3=(wv2).alloc (.cells #[.slice none 0 0,.int .i64 0,.slice none 0 0] 153):=hwx;rw [← hgx,← hwx'];have bD:w4.heap.size≤gD:=(by have:=ud2.size;omega);have ud3:=ud2.trans hq;have bx_3:=Lib.hid (bx_2.out.upd hq);clear hgx hwx hwx' hq
         refine tkK hK (HK.out _ ud3) fun hHeld=>?_
         clear hK K
         refine tk1 12 fun K hK=>?_
         go_simp;have hse:seed ++ ⟨#[32]⟩ ++ y2=sd:=pgO (by rw [HSD.out,pae,pae,HY2.out];unfold sdL;rw [← HI.out];rfl);rw [hse];refine (pdM pv bx _ _ sd _ (HPV4.out.upd ud3) bx_3.out (fun c hc=>pdB c hc) pcA HKL.out.1 HKL.out.2.1 HKL.out.2.2 hsd).mono ?_;rintro e wv4 ⟨c,b,HRC,HRB,HFO,rfl,hq⟩;have ud4:=ud3.trans hq;have fD_4:=Lib.hid (paa fD_3.out hq);have bx_4:=Lib.hid (bx_3.out.upd hq);rw [HDA.out] at HRC HRB ⊢;have rc_4:=HRC;have rb_4:=HRB;have HNW:Hid (∀ x,x∈foot c∨x∈foot b→w4.heap.size≤x):=fun x hx=>Nat.le_trans ud3.size (HFO.out x hx);have HNE:Hid (∀ x,x∈foot c∨x∈foot b→x≠gD):=fun x hx e=>(by have h1:=HFO.out x hx;have h2:=pag fD_3.out;rw [e] at h1;exact absurd h2 (Nat.not_lt.2 h1));obtain ⟨DV,hDV⟩:∃ DV,DV=dlC c ((dlAt ws (bs seed) k).point:Int) b:=⟨_,rfl⟩;have HDV:=Lib.hid hDV;rw [← hDV];have HI3:Hid ((Tryz.prog.info? 153).map (·.size)=some DV.size):=(by rw [hDV];exact pcm _ _ _);have HZ3:Hid (dlZ.size=DV.size):=(by show _=_;rw [hDV];rfl);obtain ⟨aoc,capc,hc0,hc1,hc2⟩:=paj HRC.out;obtain ⟨aob,capb,hb0,hb1,hb2⟩:=paj HRB.out;have HO3:Hid (DV.all (·.oneCell')=true):=(by show _=_;rw [hDV,hc0,hb0];simp [dlC,Value.oneCell']);have HON:Hid (c.oneCell'=true∧b.oneCell'=true):=(by rw [hc0,hb0];exact ⟨rfl,rfl⟩);clear hDV hc0 hc1 hc2 hb0 hb1 hb2 HRC HRB HFO hq hse;go_wp2_with fail
         refine tkK hK (HK.out _ ud4) fun hHeld=>?_
         clear hK K
         refine tkY 13 hHeld ?_
         refine tkY 14 hHeld ?_
         refine tkY 15 hHeld ?_
         refine tk1 17 fun K hK=>?_
         rw [if_pos (by rfl)];refine wp_store_row 153 _ _ rfl gD DV rfl rfl _ _ fD_4.out HI3.out HZ3.out HO3.out ?_;obtain ⟨wv5,hwx⟩:∃ W':World,W'=wv4.setRow gD DV:=⟨_,rfl⟩;have fD_5:Hid (wv5.heap[gD]? =some (.cells DV 153 (0,0))):=(by show _=_;rw [hwx];exact setRow_heap _ _ _ _ _ _ fD_4.out);have rc_5:Hid (wv5.ownsRow 0 3 1 c (dlAt ws (bs seed) k).coms.length (pah (dlAt ws (bs seed) k).coms)):=(by rw [hwx];exact pai rc_4.out (fun x hx=>setRow_other _ _ _ _ (HNE.out x (.inl hx))));have rb_5:Hid (paN wv5 b (dlAt ws (bs seed) k).boxes):=(by rw [hwx];exact pai rb_4.out (fun x hx=>setRow_other _ _ _ _ (HNE.out x (.inr hx))));have ud5:=ud4.setRowNew bD DV;rw [← hwx] at ud5 ⊢;clear hwx
         refine tkK hK (HK.out _ ud5) fun hHeld=>?_
         clear hK K
         refine tkY 18 hHeld ?_
         refine wpAnyH_done (by kernel_rfl) ?_ _
         refine NoPanic.normal ?_
         exact hJ y2 bx c b DV gD wv5 HDV fD_5 rc_5 rb_5 HNW HON (Lib.hid ud5)
       refine tkZ fun K hK=>?_
       go_simp;obtain ⟨gD,wv2,hgx,hwx,fD_2,hq⟩:=paw (wv1) (.cells dlZ 153);have hwx':wv2=(wv1).alloc (.cells #[.slice none 0 0,.int .i64 0,.slice none 0 0] 153):=hwx;rw [← hgx,← hwx'];have bD:w4.heap.size≤gD:=(by have:=ud1.size;omega);have ud2:=ud1.trans hq;have bx_2:=Lib.hid (bx_1.out.upd hq);clear hgx hwx hwx' hq
       refine tkK hK (HK.out _ ud2) fun hHeld=>?_
       clear hK K
       refine tk1 10 fun K hK=>?_
       go_simp;refine (pb0 I _ (by omega)).mono ?_;rintro e wv3 ⟨y2,HY2,hy2,rfl,hq⟩;have ud3:=ud2.trans hq;have fD_3:=Lib.hid (paa fD_2.out hq);have bx_3:=Lib.hid (bx_2.out.upd hq);have hsz2:¬ 9223372036854775807<seed.size+1+y2.size:=(by omega);clear hq;go_wp2_with fail
       refine tkK hK (HK.out _ ud3) fun hHeld=>?_
       clear hK K
       refine tkY 11 hHeld ?_
       refine tk1 12 fun K hK=>?_
       go_simp;have hse:seed ++ ⟨#[32]⟩ ++ y2=sd:=pgO (by rw [HSD.out,pae,pae,HY2.out];unfold sdL;rw [← HI.out];rfl);rw [hse];refine (pdM pv bx _ _ sd _ (HPV4.out.upd ud3) bx_3.out (fun c hc=>pdB c hc) pcA HKL.out.1 HKL.out.2.1 HKL.out.2.2 hsd).mono ?_;rintro e wv4 ⟨c,b,HRC,HRB,HFO,rfl,hq⟩;have ud4:=ud3.trans hq;have fD_4:=Lib.hid (paa fD_3.out hq);have bx_4:=Lib.hid (bx_3.out.upd hq);rw [HDA.out] at HRC HRB ⊢;have rc_4:=HRC;have rb_4:=HRB;have HNW:Hid (∀ x,x∈foot c∨x∈foot b→w4.heap.size≤x):=fun x hx=>Nat.le_trans ud3.size (HFO.out x hx);have HNE:Hid (∀ x,x∈foot c∨x∈foot b→x≠gD):=fun x hx e=>(by have h1:=HFO.out x hx;have h2:=pag fD_3.out;rw [e] at h1;exact absurd h2 (Nat.not_lt.2 h1));obtain ⟨DV,hDV⟩:∃ DV,DV=dlC c ((dlAt ws (bs seed) k).point:Int) b:=⟨_,rfl⟩;have HDV:=Lib.hid hDV;rw [← hDV];have HI3:Hid ((Tryz.prog.info? 153).map (·.size)=some DV.size):=(by rw [hDV];exact pcm _ _ _);have HZ3:Hid (dlZ.size=DV.size):=(by show _=_;rw [hDV];rfl);obtain ⟨aoc,capc,hc0,hc1,hc2⟩:=paj HRC.out;obtain ⟨aob,capb,hb0,hb1,hb2⟩:=paj HRB.out;have HO3:Hid (DV.all (·.oneCell')=true):=(by show _=_;rw [hDV,hc0,hb0];simp [dlC,Value.oneCell']);have HON:Hid (c.oneCell'=true∧b.oneCell'=true):=(by rw [hc0,hb0];exact ⟨rfl,rfl⟩);clear hDV hc0 hc1 hc2 hb0 hb1 hb2 HRC HRB HFO hq hse;go_wp2_with fail
       refine tkK hK (HK.out _ ud4) fun hHeld=>?_
       clear hK K
       refine tkY 13 hHeld ?_
       refine tkY 14 hHeld ?_
       refine tkY 15 hHeld ?_
       refine tk1 17 fun K hK=>?_
       rw [if_pos (by rfl)];refine wp_store_row 153 _ _ rfl gD DV rfl rfl _ _ fD_4.out HI3.out HZ3.out HO3.out ?_;obtain ⟨wv5,hwx⟩:∃ W':World,W'=wv4.setRow gD DV:=⟨_,rfl⟩;have fD_5:Hid (wv5.heap[gD]? =some (.cells DV 153 (0,0))):=(by show _=_;rw [hwx];exact setRow_heap _ _ _ _ _ _ fD_4.out);have rc_5:Hid (wv5.ownsRow 0 3 1 c (dlAt ws (bs seed) k).coms.length (pah (dlAt ws (bs seed) k).coms)):=(by rw [hwx];exact pai rc_4.out (fun x hx=>setRow_other _ _ _ _ (HNE.out x (.inl hx))));have rb_5:Hid (paN wv5 b (dlAt ws (bs seed) k).boxes):=(by rw [hwx];exact pai rb_4.out (fun x hx=>setRow_other _ _ _ _ (HNE.out x (.inr hx))));have ud5:=ud4.setRowNew bD DV;rw [← hwx] at ud5 ⊢;clear hwx
       refine tkK hK (HK.out _ ud5) fun hHeld=>?_
       clear hK K
       refine tkY 18 hHeld ?_
       refine wpAnyH_done (by kernel_rfl) ?_ _
       refine NoPanic.normal ?_
       exact hJ y2 bx c b DV gD wv5 HDV fD_5 rc_5 rb_5 HNW HON (Lib.hid ud5)
     refine tkZ fun K hK=>?_
     go_simp;obtain ⟨gD,wv1,hgx,hwx,fD_1,hq⟩:=paF w4 (.cells dlZ 153);have hwx':wv1=(w4.alloc (.cells #[.slice none 0 0,.int .i64 0,.slice none 0 0] 153)).drew:=hwx;rw [← hgx,← hwx'];have bD:w4.heap.size≤gD:=(by omega);have ud1:=hq;clear hgx hwx hwx' hq
     refine tkK hK (HK.out _ ud1) fun hHeld=>?_
     clear hK K
     refine tk1 2 fun K hK=>?_
     go_simp;refine (phS _ ws _ HWS.out (HCR4.out.upd ud1)).mono ?_;rintro e wv2 ⟨bx,HBX,rfl,hq⟩;have ud2:=ud1.trans hq;have fD_2:=Lib.hid (paa fD_1.out hq);have bx_2:=HBX;clear hq HBX;go_wp2_with fail
     refine tkK hK (HK.out _ ud2) fun hHeld=>?_
     clear hK K
     refine tk1 10 fun K hK=>?_
     go_simp;refine (pb0 I _ (by omega)).mono ?_;rintro e wv3 ⟨y2,HY2,hy2,rfl,hq⟩;have ud3:=ud2.trans hq;have fD_3:=Lib.hid (paa fD_2.out hq);have bx_3:=Lib.hid (bx_2.out.upd hq);have hsz2:¬ 9223372036854775807<seed.size+1+y2.size:=(by omega);clear hq;go_wp2_with fail
     refine tkK hK (HK.out _ ud3) fun hHeld=>?_
     clear hK K
     refine tkY 11 hHeld ?_
     refine tk1 12 fun K hK=>?_
     go_simp;have hse:seed ++ ⟨#[32]⟩ ++ y2=sd:=pgO (by rw [HSD.out,pae,pae,HY2.out];unfold sdL;rw [← HI.out];rfl);rw [hse];refine (pdM pv bx _ _ sd _ (HPV4.out.upd ud3) bx_3.out (fun c hc=>pdB c hc) pcA HKL.out.1 HKL.out.2.1 HKL.out.2.2 hsd).mono ?_;rintro e wv4 ⟨c,b,HRC,HRB,HFO,rfl,hq⟩;have ud4:=ud3.trans hq;have fD_4:=Lib.hid (paa fD_3.out hq);have bx_4:=Lib.hid (bx_3.out.upd hq);rw [HDA.out] at HRC HRB ⊢;have rc_4:=HRC;have rb_4:=HRB;have HNW:Hid (∀ x,x∈foot c∨x∈foot b→w4.heap.size≤x):=fun x hx=>Nat.le_trans ud3.size (HFO.out x hx);have HNE:Hid (∀ x,x∈foot c∨x∈foot b→x≠gD):=fun x hx e=>(by have h1:=HFO.out x hx;have h2:=pag fD_3.out;rw [e] at h1;exact absurd h2 (Nat.not_lt.2 h1));obtain ⟨DV,hDV⟩:∃ DV,DV=dlC c ((dlAt ws (bs seed) k).point:Int) b:=⟨_,rfl⟩;have HDV:=Lib.hid hDV;rw [← hDV];have HI3:Hid ((Tryz.prog.info? 153).map (·.size)=some DV.size):=(by rw [hDV];exact pcm _ _ _);have HZ3:Hid (dlZ.size=DV.size):=(by show _=_;rw [hDV];rfl);obtain ⟨aoc,capc,hc0,hc1,hc2⟩:=paj HRC.out;obtain ⟨aob,capb,hb0,hb1,hb2⟩:=paj HRB.out;have HO3:Hid (DV.all (·.oneCell')=true):=(by show _=_;rw [hDV,hc0,hb0];simp [dlC,Value.oneCell']);have HON:Hid (c.oneCell'=true∧b.oneCell'=true):=(by rw [hc0,hb0];exact ⟨rfl,rfl⟩);clear hDV hc0 hc1 hc2 hb0 hb1 hb2 HRC HRB HFO hq hse;go_wp2_with fail
     refine tkK hK (HK.out _ ud4) fun hHeld=>?_
     clear hK K
     refine tkY 13 hHeld ?_
     refine tkY 14 hHeld ?_
     refine tkY 15 hHeld ?_
     refine tk1 17 fun K hK=>?_
     rw [if_pos (by rfl)];refine wp_store_row 153 _ _ rfl gD DV rfl rfl _ _ fD_4.out HI3.out HZ3.out HO3.out ?_;obtain ⟨wv5,hwx⟩:∃ W':World,W'=wv4.setRow gD DV:=⟨_,rfl⟩;have fD_5:Hid (wv5.heap[gD]? =some (.cells DV 153 (0,0))):=(by show _=_;rw [hwx];exact setRow_heap _ _ _ _ _ _ fD_4.out);have rc_5:Hid (wv5.ownsRow 0 3 1 c (dlAt ws (bs seed) k).coms.length (pah (dlAt ws (bs seed) k).coms)):=(by rw [hwx];exact pai rc_4.out (fun x hx=>setRow_other _ _ _ _ (HNE.out x (.inl hx))));have rb_5:Hid (paN wv5 b (dlAt ws (bs seed) k).boxes):=(by rw [hwx];exact pai rb_4.out (fun x hx=>setRow_other _ _ _ _ (HNE.out x (.inr hx))));have ud5:=ud4.setRowNew bD DV;rw [← hwx] at ud5 ⊢;clear hwx
     refine tkK hK (HK.out _ ud5) fun hHeld=>?_
     clear hK K
     refine tkY 18 hHeld ?_
     refine wpAnyH_done (by kernel_rfl) ?_ _
     refine NoPanic.normal ?_
     exact hJ y2 bx c b DV gD wv5 HDV fD_5 rc_5 rb_5 HNW HON (Lib.hid ud5)
    intro y2 bx c b DV gD w5 HDV HFD HRC HRB HNW HON HU5
    skip
    have HBR:Hid ((Instr.buildSlice 107 1 #[(0,.agg DV)]).run Tryz.prog w5=.ok (.slice (some ⟨w5.heap.size,0,none⟩) 1 1) (w5.alloc (.cells DV 153))):=by show _=_;rw [HDV.out];exact poA _ _ _ _
    have HI3:Hid ((Tryz.prog.info? 153).map (·.size)=some DV.size):=by rw [HDV.out];exact pcm _ _ _
    have hR5:=pds HR4.out HU5.out
    have hD5:DsIs w5 (foot u5 ++ List.range w.heap.size) (dsN ws (bs seed) k) cb:=HD4.out.keep (fun x hx hn=>⟨Nat.lt_of_lt_of_le hx HU5.out.size,hn,HU5.out.block x hx (by simp)⟩)
    obtain ⟨u',w6,hrun,hown',hup'⟩:=pm3 w5 u5 (dsN ws (bs seed) k) cb k (dlAt ws (bs seed) k) c b HD4.out.1 hR5 (by omega) HON.out.1 HON.out.2
    rw [← pgS] at hown'
    have hfu:∀ x,x∈foot u5→x<w4.heap.size:=paf HR4.out
    have hD6:DsIs w6 (foot u' ++ List.range w.heap.size) (dsN ws (bs seed) (k+1)) (cb ++ [(c,b)]):=by
     rw [pgS]
     have hnf:∀ x,x∈foot c∨x∈foot b→x<w5.heap.size∧x ∉ foot u5 ++ List.range w.heap.size:=fun x hx=>⟨hx.elim (fun h=>paf HRC.out x h) (fun h=>HRB.out.lt x h),fun hu=>by
      have h2:=HNW.out x hx
      have h3:=HU4.out.size
      rcases List.mem_append.1 hu with hu | hu
      · have h1:=hfu x hu;omega
      · have:=List.mem_range.1 hu;omega⟩
     have h5:=hD5.snoc (d:=dlAt ws (bs seed) k) HRC.out HRB.out hnf
     exact h5.keep (fun x hx hn=>by
      rw [List.mem_append,not_or] at hn
      obtain ⟨a,b,c⟩:=poi hup' hx hn.1
      exact ⟨a,by rw [List.mem_append,not_or];exact ⟨b,hn.2⟩,c⟩)
    have HRN:Hid ((Builtin.append_ #[107,107] 107 #[u5,.slice (some ⟨w5.heap.size,0,none⟩) 1 1]).run Tryz.prog (w5.alloc (.cells DV 153))=.ok u' w6):=by show _=_;rw [HDV.out];exact hrun
    have HOW:=Lib.hid hown'
    have HD6:=Lib.hid hD6
    have HU6:=Lib.hid ((HU4.out.trans HU5.out).past2 hup' HF.out)
    have HF6:Hid (∀ x,x∈foot u'→w.heap.size≤x):=fun x hx=>by
     rcases hup'.new x hx with q | q
     · exact HF.out x q
     · have:=HU4.out.size;have:=HU5.out.size;omega
    clear hR5 hD5 hrun hown' hup' hfu hD6 HRC HRB HNW HON HU5 HD4 HR4 HU4 HPV4 HPV HKL HDA HK hsz1 ud0
    go_wp2_with (first | (refine wpList_load_row rfl 153 _ rfl gD rfl _ DV _ _ HFD.out Tryz.underlying153 rfl HI3.out ?_) | (refine wpList_buildRun rfl 107 1 _ rfl _ _ (Eq.trans (congrArg (fun z=>(Instr.buildSlice 107 1 z).run Tryz.prog w5) (by kernel_rfl)) HBR.out) ?_) | (refine wpList_append_run _ rfl _ _ _ _ rfl _ _ u' w6 rfl rfl HRN.out ?_))
    exact ⟨⟨k+1,_,by go_num,by omega,HOW.out,HD6.out,HU6.out,HF6.out⟩,(by first | (simp [intOf];done) | (simp [intOf];omega))⟩
  · obtain rfl:k=n:=by omega
    have HRD:Hid (∀ W,paB w wr W→poB w.heap.size W u5 (dsN ws (bs seed) k)):=fun W hW=>by
     refine ⟨cb,?_,HD.out.keep (fun x hx hn=>?_),HF.out⟩
     · rw [pm2]
       exact pai HR.out (fun x hx=>hW x (HF.out x hx) (paf HR.out x hx))
     · have hn':=hn
       rw [List.mem_append,not_or,List.mem_range] at hn'
       have he:=hW x (by omega) hx
       exact ⟨by rw [Array.getElem?_eq_getElem hx] at he;exact pag he,hn,he⟩
    go_wp2_with fail
    go_ret
    exact ⟨_,HRD,rfl,HU.out⟩
theorem pgU (v:Value) (ws:List Nat) (seed:ByteArray) (w:World) (hw:WsOk ws) (h:pb7 w v ws) (hs:seed.size≤100000) :
 Calls Tryz.prog 46 #[v,.string seed] w (fun e w'=>∃ u:Value,Hid (∀ W,paB w w' W→DsRd W u (dsN ws (bs seed) ws.length))∧e=.returned u∧Upd [] [] w w'):=by
 refine (pgT v ws seed w hw h hs).mono ?_
 rintro e w' ⟨u,H,rfl,hu⟩
 exact ⟨u,fun W hW=>(H.out W hW).rd,rfl,hu⟩
theorem pm4 (c p:Value):(Tryz.prog.info? 28).map (·.size)=some (#[c,p]:Array Value).size:=by
 show _=some 2
 kernel_rfl
theorem poC (k:Nat):List.replicate (k+1) (1:Nat)=List.replicate k 1 ++ [1]:=List.replicate_succ'
def pqR (ws:List Nat) (ds:List Dl) (w:World) (e:Ending) (w':World):Prop:=∃ c p:Value,Hid (∀ W,paB w w' W→Sl W c (mixL ds (needN ws.sum)))∧Hid (∀ W,paB w w' W→pdr W p (pcH ws))∧Hid (c.oneCell'=true∧p.oneCell'=true)∧e=.returned (.tuple #[.agg #[c,p],.bool true])∧Upd [] [] w w'
set_option maxHeartbeats 2000000 in
theorem pld (v dv:Value) (ws:List Nat) (ds:List Dl) (w:World) (hw:WsOk ws) (h:pb7 w v ws) (hd:DsRd w dv ds) (hg:∀ d∈ds,pkm d ws.sum∧d.coms.length=needN ws.sum) (hl:ds.length=ws.length) :
 Calls Tryz.prog 50 #[v,dv] w (pqR ws ds w):=by
 obtain ⟨gR,hgR⟩:∃ g,w.heap.size=g:=⟨_,rfl⟩
 obtain ⟨w1,hw1⟩:∃ W,w.alloc (.cells #[.slice none 0 0,.slice none 0 0] 28)=W:=⟨_,rfl⟩
 have s1:=Lib.hid (show w1.heap[gR]? =some (.cells #[.slice none 0 0,.slice none 0 0] 28 (0,0)) by rw [← hgR,← hw1];exact heap_alloc_new _ _)
 have u1:=Lib.hid (show Upd [] [] w w1 by rw [← hw1];exact (Upd.refl _ _).alloc _)
 have HG:Hid (w.heap.size≤gR):=Nat.le_of_eq hgR
 have HS0:=hw.sum
 have hw1':=hw.1
 have hw2':=hw.2.1
 have HWS:=Lib.hid hw
 have HC1:=Lib.hid (h.upd u1.out)
 have HD1:=Lib.hid (hd.upd u1.out)
 have HGD:=Lib.hid hg
 obtain ⟨ao,cap,rfl,c1,c2,hget⟩:=hd
 obtain ⟨m,hm⟩:∃ m,m=ds.length:=⟨_,rfl⟩
 have HM:=Lib.hid hm
 obtain ⟨S,hS⟩:∃ S,S=ws.sum:=⟨_,rfl⟩
 have HS:=Lib.hid hS
 rw [← hm] at c1 HD1 ⊢
 rw [← hS] at HS0
 have hm4:1≤m∧m≤4:=by omega
 have hS1:((S:Int) == 0)=false:=by rw [beq_eq_false_iff_ne];omega
 have HTO:=Lib.hid (pcY v ws w1 hw HC1.out)
 rw [← hS] at HTO
 clear hget hg hl hw h hm hS hw1' hw2'
 go_enter Tryz.func50,Tryz.ntmps50
 go_wp2_with fail
 refine HTO.out.mono ?_
 rintro e w2 ⟨rfl,hq⟩
 have U2:=Lib.hid hq
 clear hq HTO
 go_wp2_with fail
 refine (pmZ _ ds S w2 (HD1.out.upd U2.out) (fun d hd=>by have:=HGD.out d hd;rw [← HS.out] at this;exact this) HS0.1 (by omega) (by rw [← HM.out];omega) (by rw [← HM.out];omega)).mono ?_
 rintro e w3 ⟨rfl,hq⟩
 have U3:=Lib.hid (U2.out.trans hq)
 clear hq U2
 go_wp2_with fail
 go_loopw [8,9] (fun u i wr=>∃ k:Nat,i=.int .i64 (k:Int)∧k≤m∧Hid (wr.ownsRow 0 3 1 u k (pah (List.replicate k 1)))∧Hid (Upd [] (foot u) w1 wr)) (fun _ i _=>m - (intOf i).toNat)
 case atStart=>exact ⟨0,rfl,Nat.zero_le _,World.ownsRow_nil _ _ _ _,(by show Upd [] (foot (.slice none 0 0)) _ _;exact U3.out)⟩
 case round =>
  obtain ⟨k,rfl,hk,HR,HU⟩:=hrel
  by_cases hlt:k<m
  · obtain ⟨u',w',hrun,hown',hup'⟩:=pa2 wr u8 (List.replicate k 1) k 1 List.length_replicate HR.out (by omega)
    rw [← poC] at hown'
    have hrun2:(Builtin.append_ #[22,22] 22 #[u8,.slice (some ⟨wr.heap.size,0,none⟩) 1 1]).run Tryz.prog (wr.alloc (.cells #[.int .i64 1] 3))=.ok u' w':=hrun
    have HRN:=Lib.hid hrun2
    have HOW:=Lib.hid hown'
    have HUP:=Lib.hid (HU.out.trans hup')
    have x1:(k:Int)<(m:Int):=by omega
    clear hrun hrun2 hown' hup' HR HU
    go_wp2_with (refine wpList_append_run _ rfl _ _ _ _ rfl _ _ u' w' rfl rfl HRN.out ?_)
    exact ⟨⟨k+1,by go_num,by omega,HOW.out,HUP.out⟩,(by first | (simp [intOf];done) | (simp [intOf];omega))⟩
  · obtain rfl:k=m:=by omega
    have U4:Hid (Upd [] [] w1 wr):=HU.out.mono (fun _ h=>h) (fun _ h=>absurd h (by simp))
    have HO4:Hid (Sl wr u8 (List.replicate ds.length 1)):=Sl.of_digs List.length_replicate (by rw [← HM.out];exact HR.out)
    have x1:¬ (k:Int)<(k:Int):=by omega
    clear HR HU
    go_wp2_with fail
    refine (pjf v ws wr HWS.out (HC1.out.upd U4.out)).mono ?_
    rintro e w5 ⟨p,HP,rfl,hq⟩
    obtain ⟨w4,hw4⟩:∃ W,W=wr:=⟨_,rfl⟩
    have HSZ:Hid (w1.heap.size≤wr.heap.size∧wr.heap.size≤w5.heap.size):=⟨U4.out.size,hq.size⟩
    have U5:=Lib.hid (U4.out.trans hq)
    have HO5:=Lib.hid (HO4.out.upd hq)
    clear hq U4 HO4
    go_wp2_with fail
    refine (pdG S w5 HS0.1 (by omega)).mono ?_
    rintro e w' ⟨rfl,rfl⟩
    obtain ⟨q,hqq⟩:∃ q,q=needN S:=⟨_,rfl⟩
    have hq12:1≤q∧q≤S:=by rw [hqq];exact pcg HS0.1
    have HQ:=Lib.hid hqq
    rw [← hqq]
    clear hqq
    go_wp2_with fail
    refine (plc _ u8 ds q w5 (HD1.out.upd U5.out) HO5.out (fun d hd=>⟨by rw [(HGD.out d hd).2,HQ.out,HS.out],fun x hx=>((HGD.out d hd).1.1 x hx).2.1⟩) (by omega) (by rw [← HM.out];omega)).mono ?_
    rintro e w6 ⟨c,HCM,rfl,hq⟩
    have U6:=Lib.hid (U5.out.trans hq)
    have HCL6:=Lib.hid (HCM.out w6 (paB.refl _ _))
    have HP6:=Lib.hid (HP.out w6 (fun x h1 h2=>hq.block x h2 (by simp)))
    have HQ56:=Lib.hid hq
    have S6:=Lib.hid (paa s1.out U6.out)
    obtain ⟨ca,cc,hcv,_,_⟩:=HCL6.out.form
    obtain ⟨pa,pc,hpv,_,_,_⟩:=HP6.out
    have HCV:=Lib.hid hcv
    have HPV:=Lib.hid hpv
    obtain ⟨KV,hKV⟩:∃ KV:Array Value,KV=#[c,p]:=⟨_,rfl⟩
    have HB:Hid (Tryz.prog.built 28 [(0,c),(1,p)]=some KV):=by show _=_;rw [hKV,hcv,hpv];kernel_rfl
    have HI:Hid ((Tryz.prog.info? 28).map (·.size)=some KV.size):=by rw [hKV];exact pm4 c p
    have HZ:Hid ((#[.slice none 0 0,.slice none 0 0]:Array Value).size=KV.size):=by show _=_;rw [hKV];rfl
    have HO:Hid (KV.all (·.oneCell')=true):=by show _=_;rw [hKV,hcv,hpv];simp [Value.oneCell']
    have HKV:=Lib.hid hKV
    obtain ⟨w7,hw7⟩:∃ W,w6.setRow gR KV=W:=⟨_,rfl⟩
    have HW7:=Lib.hid hw7
    have S7:=Lib.hid (show w7.heap[gR]? =some (.cells KV 28 (0,0)) by rw [← hw7];exact setRow_heap _ _ _ _ _ _ S6.out)
    have HNE:Hid (∀ x,w1.heap.size≤x→x≠gR):=fun x hx=>by have:=pag s1.out;omega
    have U7:=Lib.hid (show Upd [] [] w w7 by rw [← hw7];exact (u1.out.trans U6.out).setRowNew HG.out KV)
    have HRG:=Lib.hid (pag s1.out)
    have HW1:=Lib.hid u1.out.size
    have HFC:Hid (∀ W,paB w w7 W→Sl W c (mixL ds q)):=fun W hW=>HCM.out W (fun x h1 h2=>by
     have hne:x≠gR:=by have:=HSZ.out;have:=HRG.out;omega
     have he:w7.heap[x]? =w6.heap[x]?:=by rw [← hw7];exact setRow_other _ _ _ _ hne
     have hs7:w7.heap.size=w6.heap.size:=by rw [← hw7];simp
     exact (hW x (by have:=HSZ.out;have:=HW1.out;omega) (by omega)).trans he)
    have HFP:Hid (∀ W,paB w w7 W→pdr W p (pcH ws)):=fun W hW=>HP.out W (fun x h1 h2=>by
     have hne:x≠gR:=by have:=HSZ.out;have:=HRG.out;omega
     have he:w7.heap[x]? =w6.heap[x]?:=by rw [← hw7];exact setRow_other _ _ _ _ hne
     have hs7:w7.heap.size=w6.heap.size:=by rw [← hw7];simp
     exact ((hW x (by have:=HSZ.out;have:=HW1.out;omega) (by have:=HQ56.out.size;omega)).trans he).trans (HQ56.out.block x h2 (by simp)))
    have HON:Hid (c.oneCell'=true∧p.oneCell'=true):=by rw [hcv,hpv];exact ⟨rfl,rfl⟩
    clear hq hKV hw7 hcv hpv U5 HO5 HP
    go_wp2_with (first | (refine wpList_buildTo rfl 28 _ rfl _ rfl KV (Eq.trans (congrArg (fun z=>Tryz.prog.built 28 z) (by kernel_rfl)) HB.out) ?_) | (refine wpList_store_rowAs rfl 28 _ _ rfl gR KV rfl rfl _ _ S6.out HI.out HZ.out HO.out w7 HW7.out ?_))
    refine bodyPost_ret (results_row_tmp rfl _ _ gR _ KV _ _ rfl S7.out Tryz.underlying28 rfl HI.out) rfl ⟨c,p,?_,HFP,HON,by rw [HKV.out];rfl,U7.out⟩
    have h:=HFC.out
    rw [HQ.out,HS.out] at h
    exact h
end Go.Proofs.YtheobkejohifaaaGreatDoor
