/- court.formTwoLocks and what follows. -/
import Derived.Test.YtheobkejohifaaaGreatDoorHAA
import Derived.Test.YtheobkejohifaaaGreatDoorHBB
import Derived.Test.YtheobkejohifaaaGreatDoorHBD
import Derived.Test.YtheobkejohifaaaGreatDoorHBE
import Derived.Test.YtheobkejohifaaaGreatDoorHAY
import Derived.Test.YtheobkejohifaaaGreatDoorHBA
import Derived.Test.YtheobkejohifaaaGreatDoorHAN
import Derived.Test.YtheobkejohifaaaGreatDoorHAO
import Derived.Test.YtheobkejohifaaaGreatDoorHAZ
namespace Go.Proofs.YtheobkejohifaaaGreatDoor
open Go.RowKit
set_option maxRecDepth 100000
section
variable {M : Array Value} {aw ar as' bw br bs' low high id pub : Int} {aT bT F A B : ByteArray}
set_option maxHeartbeats 4000000 in
theorem pjy (h:MtIs M aw aT ar as' bw bT br bs' low high F A B id pub) (ht:aT.size≤900000) (ht2:bT.size≤900000) (w:World) (htab:Tabs w) :
 Calls Tryz.prog 98 #[.agg M] w (pcP (fun b=>b=true ↔ (∃ ev,pb3 (bs aT) ev)∧∃ ev,pb3 (bs bT) ev) w):=by
 obtain ⟨g,hg⟩:∃ g,w.heap.size=g:=⟨_,rfl⟩
 obtain ⟨w0,hw0⟩:∃ W,w.alloc (.cells M 103)=W:=⟨_,rfl⟩
 have r0:=Lib.hid (show w0.heap[g]? =some (.cells M 103 (0,0)) by rw [← hg,← hw0];exact heap_alloc_new _ _)
 have u0:=Lib.hid (show Upd [] [] w w0 by rw [← hw0];exact (Upd.refl _ _).alloc _)
 have HK:Hid (∀ W,Upd [] [] w0 W→W.cell? ⟨g,9,none⟩=some (.string aT)∧W.cell? ⟨g,13,none⟩=some (.string bT)):=fun W u=>⟨(cell_of_row _ g 9 _ _ _ (paa r0.out u)).trans h.a1,(cell_of_row _ g 13 _ _ _ (paa r0.out u)).trans h.b1⟩
 have HB:=Lib.hid (fun W (u:Upd [] [] w W)=>pc6 bT ht2 W (htab.upd u))
 have HA:=Lib.hid (pc6 aT ht w0 (htab.upd u0.out))
 obtain ⟨c1,c2⟩:=HK.out w0 (Upd.refl _ _)
 clear h
 go_enter Tryz.func98,Tryz.ntmps98
 go_wp2_with fail
 refine HA.out.mono ?_
 rintro e w1 ⟨EV,b1,HI,HR,rfl,hq⟩
 obtain ⟨w2,Z2,W2,R2,hq2⟩:=paC w1 53 evZ.toArray EV
 rw [← paz] at Z2 W2
 obtain ⟨gE,hgE⟩:∃ g,w1.heap.size=g:=⟨_,rfl⟩
 rw [hgE] at Z2 W2 R2
 have V2:=Lib.hid (hq.trans hq2)
 have HZ1:Hid ((#[.int .i64 0,.int .i64 0,.int .i64 0,.int .i64 0,.int .i64 0,.string ⟨#[]⟩,.int .u8 0,.int .u8 0,.int .u8 0,.int .u8 0,.int .u8 0,.int .u8 0,.int .u8 0,.int .u8 0,.int .u8 0,.int .u8 0,.int .u8 0,.int .u8 0,.int .u8 0,.int .u8 0,.int .u8 0,.int .u8 0,.int .u8 0,.int .u8 0,.int .u8 0,.int .u8 0,.int .u8 0,.int .u8 0,.int .u8 0,.int .u8 0,.int .u8 0,.int .u8 0,.int .u8 0,.int .u8 0,.int .u8 0,.int .u8 0,.int .u8 0,.int .u8 0,.int .i64 0,.int .i64 0]:Array Value).size=EV.size):=by show _=_;rw [paz];exact HI.out.2.2
 obtain ⟨c1,c2⟩:=HK.out w2 V2.out
 clear hq hq2 HA
 go_wp2_with (first | (refine wpList_store_rowAs rfl 53 _ _ rfl gE EV rfl rfl _ _ Z2.out HI.out.1 HZ1.out HI.out.2.1 w2 W2.out ?_))
 refine (HB.out w2 (u0.out.trans V2.out)).mono ?_
 rintro e w3 ⟨EW,b2,HI2,HR2,rfl,hq⟩
 obtain ⟨w4,Z4,W4,R4,hq4⟩:=paC w3 53 evZ.toArray EW
 rw [← paz] at Z4 W4
 obtain ⟨gF,hgF⟩:∃ g,w3.heap.size=g:=⟨_,rfl⟩
 rw [hgF] at Z4 W4 R4
 have V4:=Lib.hid ((V2.out.trans hq).trans hq4)
 have HZ2:Hid ((#[.int .i64 0,.int .i64 0,.int .i64 0,.int .i64 0,.int .i64 0,.string ⟨#[]⟩,.int .u8 0,.int .u8 0,.int .u8 0,.int .u8 0,.int .u8 0,.int .u8 0,.int .u8 0,.int .u8 0,.int .u8 0,.int .u8 0,.int .u8 0,.int .u8 0,.int .u8 0,.int .u8 0,.int .u8 0,.int .u8 0,.int .u8 0,.int .u8 0,.int .u8 0,.int .u8 0,.int .u8 0,.int .u8 0,.int .u8 0,.int .u8 0,.int .u8 0,.int .u8 0,.int .u8 0,.int .u8 0,.int .u8 0,.int .u8 0,.int .u8 0,.int .u8 0,.int .i64 0,.int .i64 0]:Array Value).size=EW.size):=by show _=_;rw [paz];exact HI2.out.2.2
 have HX1:Hid (b1=true ↔ ∃ ev,pb3 (bs aT) ev):=by
  show _ ↔ _
  rcases HR.out with ⟨h,ev,hp,_⟩ | ⟨h,hn⟩
  · exact ⟨fun _=>⟨ev,hp⟩,fun _=>h⟩
  · exact ⟨(fun hk=>by rw [h] at hk;cases hk),fun ⟨ev,hp⟩=>absurd hp (hn ev)⟩
 have HX2:Hid (b2=true ↔ ∃ ev,pb3 (bs bT) ev):=by
  show _ ↔ _
  rcases HR2.out with ⟨h,ev,hp,_⟩ | ⟨h,hn⟩
  · exact ⟨fun _=>⟨ev,hp⟩,fun _=>h⟩
  · exact ⟨(fun hk=>by rw [h] at hk;cases hk),fun ⟨ev,hp⟩=>absurd hp (hn ev)⟩
 clear hq hq4 HB c1 c2 hgE
 cases b1 with
 | false =>
  go_wp2_with (first | (refine wpList_store_rowAs rfl 53 _ _ rfl gF EW rfl rfl _ _ Z4.out HI2.out.1 HZ2.out HI2.out.2.1 w4 W4.out ?_))
  go_ret
  exact ⟨false,⟨(fun h=>by cases h),fun h=>HX1.out.2 h.1⟩,rfl,u0.out.trans V4.out⟩
 | true =>
  go_wp2_with (first | (refine wpList_store_rowAs rfl 53 _ _ rfl gF EW rfl rfl _ _ Z4.out HI2.out.1 HZ2.out HI2.out.2.1 w4 W4.out ?_))
  go_ret
  exact ⟨b2,⟨(fun h=>⟨HX1.out.1 (by trivial),HX2.out.1 h⟩),fun h=>HX2.out.2 h.2⟩,rfl,u0.out.trans V4.out⟩
end
def MkCP (s p:ByteArray) (w:World) (e:Ending) (w':World):Prop:=∃ (r:ByteArray) (b:Bool),Hid ((b=true∧bs s=bs p ++ bs r)∨(b=false∧∀ t,bs s≠bs p ++ t))∧r.size≤s.size∧e=.returned (.tuple #[.string r,.bool b])∧w'=w
theorem plx (s p:ByteArray) (w:World) (_hs:s.size≤1000000000) (hp:p.size≤1000000):Calls Tryz.prog 194 #[.string s,.string p] w (MkCP s p w):=by
 have HI:Calls Tryz.prog 231 #[.string s,.string p] w (MkCP s p w):=by
  have HP:=Lib.hid (Tryz.stringslite_HasPrefix s p w)
  obtain ⟨q,hq⟩:∃ q,Lib.hasPrefix s.data.toList p.data.toList=q:=⟨_,rfl⟩
  rw [hq] at HP
  have HQ:=Lib.hid hq
  clear hq
  cases q with
  | false =>
   go_enter Tryz.func231,Tryz.ntmps231
   go_wp2_with (go_at_fn 178)
   refine HP.out.mono ?_
   rintro e w1 ⟨rfl,rfl⟩
   go_wp2_with fail
   go_ret2
   refine ⟨s,false,.inr ⟨rfl,fun t h=>?_⟩,Nat.le_refl _,rfl,rfl⟩
   have e:(bs p).isPrefixOf (bs s)=false:=HQ.out
   rw [h] at e
   rw [List.isPrefixOf_iff_prefix.2 ⟨t,rfl⟩] at e
   cases e
  | true =>
   have hpre:bs p <+: bs s:=List.isPrefixOf_iff_prefix.1 HQ.out
   obtain ⟨t,ht⟩:=hpre
   have hle:p.size≤s.size:=by
    have:=congrArg List.length ht
    rw [List.length_append,pac,pac] at this
    omega
   have HT:=Lib.hid ht
   have l1:(p.size:Int)≤(s.size:Int):=by omega
   have l2:¬ (s.size:Int)<(p.size:Int):=by omega
   clear ht
   go_enter Tryz.func231,Tryz.ntmps231
   go_wp2_with (go_at_fn 178)
   refine HP.out.mono ?_
   rintro e w1 ⟨rfl,rfl⟩
   go_wp2_with fail
   go_ret2
   have hx:bs (s.extract p.size s.size)=t:=by
    have hl:(bs s).length - (bs p).length=t.length:=by rw [← HT.out,List.length_append];omega
    rw [pa1,← pac p,← pac s,hl,← HT.out,List.drop_left,List.take_length]
   exact ⟨_,true,.inl ⟨rfl,by rw [hx];exact HT.out.symm⟩,by rw [ByteArray.size_extract];omega,rfl,rfl⟩
 go_enter Tryz.func194,Tryz.ntmps194
 go_wp2_with (go_at_fn 231)
 refine HI.mono ?_
 rintro e w1 ⟨r,b,HR,hr,rfl,rfl⟩
 clear HI
 go_wp2_with fail
 go_ret2
 exact ⟨r,b,HR,hr,rfl,rfl⟩
def wDlg:List UInt8:=[100,101,97,108,105,110,103,32]
def pfM (l:List UInt8) (ep:Int) (d:DlI):Prop:=pab ep∧∃ t,l=wDlg ++ (Lib.itoa ep ++ 32 :: t)∧IsDl t d
theorem pcC {P:Program} {fn:Func} {u1 p u2:Tmp} {ty:TypeId} (h:fn.results=#[.tmp u1,.cell p ty,.tmp u2]) (tmps:Array Value) (w:World) (g:Nat) (t:TypeId) (c:Array Value) (fr:Nat × Nat) (d:TypeDesc)
 (hp:tmps.getD p undef=.pointer (some ⟨g,0,none⟩)) (hg:w.heap[g]? =some (.cells c t fr)) (hu:P.underlying ty=some d) (hd:d.isRow=true) (hi:(P.info? ty).map (·.size)=some c.size) :
 (results fn tmps).run P w=.ok (.tuple #[tmps.getD u1 undef,.agg c,tmps.getD u2 undef]) w:=by
 have hl:(loadVar ty ⟨g,0,none⟩).run P w=.ok (.agg c) w:=by
  cases d with
  | struct fs=>exact run_loadVar_row w g t ty c fr _ hg hu rfl hi
  | array n e=>exact run_loadVar_row w g t ty c fr _ hg hu rfl hi
  | _=>cases hd
 have hp':tmps[p]?.getD undef=.pointer (some ⟨g,0,none⟩):=by rw [← hp];simp
 simp only [results,h]
 simp [Result.andThen,hp',asAddr,hl]
def prg (l:List UInt8) (w:World) (e:Ending) (w':World):Prop :=
 ∃ (ep:Int) (cv bv:Value) (d:DlI) (ok:Bool),Hid ((ok=true∧pfM l ep d∧d.fit)∨(ok=false∧∀ ep d,¬ pfM l ep d))∧Hid (RdI w' cv d.coms∧RdS w' bv d.boxes)∧e=.returned (.tuple #[.int .i64 ep,.agg #[cv,.int .i64 d.point,bv],.bool ok])∧Upd [] [] w w'
theorem dgNo {l:List UInt8} {w W:World} (hn:∀ ep d,¬ pfM l ep d) (u:Upd [] [] w W):prg l w (.returned (.tuple #[.int .i64 0,.agg dlZ,.bool false])) W :=
 ⟨0,_,_,⟨[],0,[]⟩,false,.inr ⟨rfl,hn⟩,⟨RdI.nil _,RdS.nil _⟩,rfl,u⟩
theorem RdI.same {w w':World} {v:Value} {l:List Int} (h:RdI w v l) (hs:∀ x,x∈foot v→w'.heap[x]? =w.heap[x]?):RdI w' v l:=by
 obtain ⟨ao,cap,rfl,h1,h2,hg⟩:=h
 refine ⟨ao,cap,rfl,h1,h2,fun k x hk=>?_⟩
 obtain ⟨g,rfl,hl,hc⟩:=hg k x hk
 have e:=hs g (by simp [foot,Value.ownBlock])
 exact ⟨g,rfl,pag (e.trans (Array.getElem?_eq_getElem hl)),by rw [World.cell?_of_block (a:=⟨g,k,none⟩) e];exact hc⟩
theorem RdS.same {w w':World} {v:Value} {l:List (List UInt8)} (h:RdS w v l) (hs:∀ x,x∈foot v→w'.heap[x]? =w.heap[x]?):RdS w' v l:=by
 obtain ⟨ao,cap,rfl,h1,h2,hg⟩:=h
 refine ⟨ao,cap,rfl,h1,h2,fun k x hk=>?_⟩
 obtain ⟨g,rfl,hl,hc⟩:=hg k x hk
 have e:=hs g (by simp [foot,Value.ownBlock])
 exact ⟨g,rfl,pag (e.trans (Array.getElem?_eq_getElem hl)),by rw [World.cell?_of_block (a:=⟨g,k,none⟩) e];exact hc⟩
theorem pnS {W:World} {g:Nat} {DV:Array Value} (hi:(Tryz.prog.info? 153).map (·.size)=some DV.size) (h:W.heap[g]? =some (.cells DV 153 (0,0))):(Instr.loadAt 153 (.pointer (some ⟨g,0,none⟩))).run Tryz.prog W=.ok (.agg DV) W :=
 run_loadAt_mid W g 0 153 DV.toList _ (pbM (by simp) h) Tryz.underlying153 rfl (by rw [Array.length_toList];exact hi)
set_option maxHeartbeats 4000000 in
theorem pjz (T:ByteArray) (hT:T.size≤900000) (w:World) (htab:Tabs w):Calls Tryz.prog 152 #[.string T] w (prg (bs T) w):=by
 obtain ⟨gR,hgR⟩:∃ g,w.heap.size=g:=⟨_,rfl⟩
 obtain ⟨w1,hw1⟩:∃ W,w.alloc (.cells #[.slice none 0 0,.int .i64 0,.slice none 0 0] 153)=W:=⟨_,rfl⟩
 obtain ⟨DZ,hDZ⟩:∃ DZ,DZ=dlZ:=⟨_,rfl⟩
 have s1:=Lib.hid (show w1.heap[gR]? =some (.cells DZ 153 (0,0)) by rw [hDZ,← hgR,← hw1];exact heap_alloc_new _ _)
 have u1:=Lib.hid (show Upd [] [] w w1 by rw [← hw1];exact (Upd.refl _ _).alloc _)
 have HG:Hid (w.heap.size≤gR):=Nat.le_of_eq hgR
 have HDZ:=Lib.hid hDZ
 have HB0:Hid (Tryz.prog.built 153 []=some DZ):=by rw [hDZ];exact pkz
 have HI0:Hid ((Tryz.prog.info? 153).map (·.size)=some DZ.size):=by rw [hDZ];exact pcm _ _ _
 have HO0:Hid (DZ.all (·.oneCell')=true):=by rw [hDZ];show _=_;simp [dlZ,Value.oneCell']
 have HCP:=Lib.hid (plx T ⟨#[100,101,97,108,105,110,103,32]⟩ w1 (by omega) (by show 8≤_;omega))
 have HTZ:=Lib.hid hT
 clear hDZ hT
 go_enter Tryz.func152,Tryz.ntmps152
 go_wp2_with fail
 refine HCP.out.mono ?_
 rintro e w2 ⟨r,b,HR,hr,rfl,rfl⟩
 clear HCP hw1 hgR
 cases b with
 | false =>
  have HNO:Hid (∀ ep d,¬ pfM (bs T) ep d):=fun ep d h=>by
   obtain ⟨_,t,e,_⟩:=h
   rcases HR.out with ⟨h1,_⟩ | ⟨_,hn⟩
   · cases h1
   · exact hn _ e
  clear hr HR
  go_wp2_with (first | (refine wpList_buildTo rfl 153 #[] rfl _ rfl DZ (Eq.trans (congrArg (fun z=>Tryz.prog.built 153 z) (by kernel_rfl)) HB0.out) ?_) | (refine wpList_store_row rfl 153 _ _ rfl gR DZ rfl rfl _ _ s1.out HI0.out rfl HO0.out ?_))
  refine bodyPost_ret (pcC rfl _ _ gR _ DZ _ _ rfl (setRow_heap _ _ _ _ _ _ s1.out) Tryz.underlying153 rfl HI0.out) rfl ?_
  rw [HDZ.out]
  exact dgNo HNO.out (u1.out.setRowNew HG.out _)
 | true =>
  have HSP:Hid (bs T=wDlg ++ bs r):=by
   rcases HR.out with ⟨_,h⟩ | ⟨h,_⟩
   · exact h
   · cases h
  have HRZ:Hid (r.size≤900000):=by have:=HTZ.out;show _≤_;omega
  have HCT:=Lib.hid (pdn r 32 w2 (by have:=HRZ.out;omega) (htab.upd u1.out))
  clear hr HR
  go_wp2_with fail
  refine HCT.out.mono ?_
  rintro e w3 ⟨l,r2,q,HLL,HR2,HQ,hl,hr2,rfl,hq⟩
  have U3:=Lib.hid (u1.out.trans hq)
  have S3:=Lib.hid (paa s1.out hq)
  have HLZ:Hid (l.size≤1000000∧r2.size≤1000000):=by have:=HRZ.out;exact ⟨by omega,by omega⟩
  clear hq HCT hl hr2
  cases q with
  | false =>
   have HNO:Hid (∀ ep d,¬ pfM (bs T) ep d):=fun ep d h=>by
    obtain ⟨_,t,e,_⟩:=h
    rw [HSP.out] at e
    have e2:=HQ.out
    rw [List.append_cancel_left e,pbf 32 _ _ (itoa_no32 _)] at e2
    cases e2
   go_wp2_with (first | (refine wpList_buildTo rfl 153 #[] rfl _ rfl DZ (Eq.trans (congrArg (fun z=>Tryz.prog.built 153 z) (by kernel_rfl)) HB0.out) ?_) | (refine wpList_store_row rfl 153 _ _ rfl gR DZ rfl rfl _ _ S3.out HI0.out rfl HO0.out ?_))
   refine bodyPost_ret (pcC rfl _ _ gR _ DZ _ _ rfl (setRow_heap _ _ _ _ _ _ S3.out) Tryz.underlying153 rfl HI0.out) rfl ?_
   rw [HDZ.out]
   exact dgNo HNO.out (U3.out.setRowNew HG.out _)
  | true =>
   have HCUT:Hid (Lib.cut (bs r) [32]=(bs l,bs r2,true)):=Prod.ext HLL.out.symm (Prod.ext HR2.out.symm HQ.out.symm)
   have HNM:=Lib.hid (peN l w3 (by have:=HLZ.out;omega) (htab.upd U3.out))
   clear HLL HR2 HQ
   go_wp2_with fail
   refine HNM.out.mono ?_
   rintro e w4 ⟨ep,ok,HNK,hep,rfl,hq⟩
   have U4:=Lib.hid (U3.out.trans hq)
   have S4:=Lib.hid (paa S3.out hq)
   have HEP:=Lib.hid hep
   clear hq HNM hep
   cases ok with
   | false =>
    have HNO:Hid (∀ ep d,¬ pfM (bs T) ep d):=fun n d h=>by
     obtain ⟨hn,t,e,_⟩:=h
     rw [HSP.out] at e
     have e2:=HCUT.out
     rw [List.append_cancel_left e,pbf 32 _ _ (itoa_no32 _)] at e2
     injection e2 with e2 _
     exact HNK.out.2.2 rfl ⟨n,hn,e2.symm⟩
    go_wp2_with (first | (refine wpList_buildTo rfl 153 #[] rfl _ rfl DZ (Eq.trans (congrArg (fun z=>Tryz.prog.built 153 z) (by kernel_rfl)) HB0.out) ?_) | (refine wpList_store_row rfl 153 _ _ rfl gR DZ rfl rfl _ _ S4.out HI0.out rfl HO0.out ?_))
    refine bodyPost_ret (pcC rfl _ _ gR _ DZ _ _ rfl (setRow_heap _ _ _ _ _ _ S4.out) Tryz.underlying153 rfl HI0.out) rfl ?_
    rw [HDZ.out]
    exact dgNo HNO.out (U4.out.setRowNew HG.out _)
   | true =>
    have HNB:Hid (bs l=Lib.itoa ep):=HNK.out.2.1 rfl
    have HDR:=Lib.hid (pip r2 HLZ.out.2 w4 (htab.upd U4.out))
    clear HNK
    go_wp2_with fail
    refine HDR.out.mono ?_
    rintro e w5 ⟨cv,bv,d,ok,HPR,HRI,HFT,rfl,hq⟩
    obtain ⟨DV,hDV⟩:∃ DV:Array Value,DV=#[cv,.int .i64 d.point,bv]:=⟨_,rfl⟩
    rw [← hDV]
    have HDV:=Lib.hid hDV
    have HIV:Hid ((Tryz.prog.info? 153).map (·.size)=some DV.size):=by rw [hDV];exact pcm _ _ _
    obtain ⟨a1,n1,k1,e1⟩:∃ a n k,cv=.slice a n k:=by obtain ⟨a,k,e,_⟩:=HRI.out.1;exact ⟨a,_,k,e⟩
    obtain ⟨a2,n2,k2,e2⟩:∃ a n k,bv=.slice a n k:=by obtain ⟨a,k,e,_⟩:=HRI.out.2;exact ⟨a,_,k,e⟩
    have HOV:Hid (DV.all (·.oneCell')=true):=by rw [hDV,e1,e2];show _=_;simp [Value.oneCell']
    have HZV:Hid ((#[.slice none 0 0,.int .i64 0,.slice none 0 0]:Array Value).size=DV.size):=by rw [hDV];rfl
    obtain ⟨w6,Z6,W6,R6,hq6⟩:=paC w5 153 #[.slice none 0 0,.int .i64 0,.slice none 0 0] DV
    obtain ⟨gX,hgX⟩:∃ g,w5.heap.size=g:=⟨_,rfl⟩
    rw [hgX] at Z6 W6 R6
    have U6:=Lib.hid ((U4.out.trans hq).trans hq6)
    have S6:=Lib.hid (paa (paa S4.out hq) hq6)
    have ud0:Upd [] [] w6 w6.drew:=(Upd.refl _ _).drew
    have RX:=Lib.hid (paa R6.out ud0)
    have RR:=Lib.hid (paa S6.out ud0)
    have HKU:=Lib.hid (U6.out.trans ud0)
    obtain ⟨wF,hwF⟩:∃ W,w6.drew.setRow gR DV=W:=⟨_,rfl⟩
    have RF:Hid (wF.heap[gR]? =some (.cells DV 153 (0,0))):=by show _=_;rw [← hwF];exact setRow_heap _ _ _ _ _ _ RR.out
    have RXF:Hid (wF.heap[gX]? =some (.cells DV 153 (0,0))):=by
     show _=_
     rw [← hwF]
     exact pal RX.out (by have:=pag (paa S4.out hq);omega) _
    have UF:Hid (Upd [] [] w wF):=by show Upd _ _ _ _;rw [← hwF];exact HKU.out.setRowNew HG.out _
    have HDS:Hid (DZ.size=DV.size):=by show _=_;rw [HDZ.out,hDV];rfl
    have HRF:Hid (RdI wF cv d.coms∧RdS wF bv d.boxes):=by
     have hx:∀ x,x∈foot cv∨x∈foot bv→wF.heap[x]? =w6.drew.heap[x]?:=fun x hx=>by
      have h1:=HFT.out x hx
      have h2:=pag S4.out
      rw [← hwF]
      unfold World.setRow
      rw [Array.getElem?_modify,if_neg (by omega)]
     exact ⟨((HRI.out.1.upd hq6).upd ud0).same (fun x h=>hx x (.inl h)),((HRI.out.2.upd hq6).upd ud0).same (fun x h=>hx x (.inr h))⟩
    have HWF:=Lib.hid hwF
    have HFIN:Hid ((ok=true∧pfM (bs T) ep d∧d.fit)∨(ok=false∧∀ ep d,¬ pfM (bs T) ep d)):=by
     have e0:bs r=Lib.itoa ep ++ 32 :: bs r2:=by rw [pgY HCUT.out,HNB.out]
     rcases HPR.out with ⟨h,hp,hf⟩ | ⟨h,hp,_⟩
     · exact .inl ⟨h,⟨HEP.out,bs r2,by rw [HSP.out,e0],hp⟩,hf⟩
     · refine .inr ⟨h,fun n d' hd=>?_⟩
       obtain ⟨hn,t,e,ht⟩:=hd
       rw [HSP.out] at e
       have e2:=HCUT.out
       rw [List.append_cancel_left e,pbf 32 _ _ (itoa_no32 _)] at e2
       injection e2 with _ e2
       injection e2 with e2 _
       exact hp d' (e2 ▸ ht)
    clear hq hq6 HDR hDV hwF e1 e2 HPR HRI HFT
    go_upto_region 11 with (first | (refine wpList_store_rowAs rfl 153 _ _ rfl gX DV rfl rfl _ _ Z6.out HIV.out HZV.out HOV.out w6 W6.out ?_))
    refine wp_region_noPanic ?_
    refine wp_region_held_drew (S:=fun wp=>(Instr.loadAt 153 (.pointer (some ⟨gX,0,none⟩))).run Tryz.prog wp=.ok (.agg DV) wp) (by kernel_rfl) ?_ (fun hHeld=>?_)
    · exact pnS HIV.out RX.out
    refine tkY 0 hHeld ?_
    refine tkL 1 hHeld DV (fun w hSw=>hSw) ?_
    refine tkY 2 hHeld ?_
    refine tkY 3 hHeld ?_
    refine tk1 4 fun K hK=>?_
    rw [if_pos (by rfl)];refine wp_store_row 153 _ _ rfl gR DV rfl rfl _ _ RR.out HIV.out HDS.out HOV.out ?_;rw [HWF.out]
    refine tkK hK (pnS HIV.out RXF.out) fun hHeld=>?_
    clear hK K
    refine tkY 5 hHeld ?_
    refine wpAnyH_done (by kernel_rfl) ?_ _
    refine NoPanic.normal ?_
    go_wp2_with fail
    refine bodyPost_ret (pcC rfl _ _ gR _ DV _ _ rfl RF.out Tryz.underlying153 rfl HIV.out) rfl ?_
    rw [HDV.out]
    exact ⟨ep,cv,bv,d,ok,HFIN,HRF,rfl,UF.out⟩
set_option maxHeartbeats 4000000 in
theorem pjA (K P:Value) (cs ws:List Nat) (n x v c z:Int) (w:World) (hw:WsOk ws) (hK:Sl w K cs) (hP:pdr w P (pcH ws)) (hcl:cs.length=needN ws.sum) (hcm:∀ c∈cs,memN c) (hl:cs.length≤1000) (hn:pab n) (hx:pab x) (hv:pab v) (hc:pab c) (hz:pab z) (htab:Tabs w) :
 Calls Tryz.prog 148 #[.agg #[K,P],.int .i64 n,.agg #[.int .i64 x,.int .i64 v,.int .i64 c,.int .i64 z]] w (MkB (accB cs ws n x v c z) w):=by
 obtain ⟨g,hg⟩:∃ g,w.heap.size=g:=⟨_,rfl⟩
 obtain ⟨w0,hw0⟩:∃ W,w.alloc (.cells #[K,P] 28)=W:=⟨_,rfl⟩
 have r0:w0.heap[g]? =some (.cells #[K,P] 28 (0,0)):=by rw [← hg,← hw0];exact heap_alloc_new _ _
 have u0:Upd [] [] w w0:=by rw [← hw0];exact (Upd.refl _ _).alloc _
 obtain ⟨g2,hg2⟩:∃ g,w0.heap.size=g:=⟨_,rfl⟩
 obtain ⟨w1,hw1⟩:∃ W,w0.alloc (.cells #[.int .i64 x,.int .i64 v,.int .i64 c,.int .i64 z] 40)=W:=⟨_,rfl⟩
 have r1:w1.heap[g2]? =some (.cells #[.int .i64 x,.int .i64 v,.int .i64 c,.int .i64 z] 40 (0,0)):=by rw [← hg2,← hw1];exact heap_alloc_new _ _
 have u1:Upd [] [] w0 w1:=by rw [← hw1];exact (Upd.refl _ _).alloc _
 have HU1:=Lib.hid (u0.trans u1)
 have HR0:=Lib.hid (paa r0 u1)
 have HR1:=Lib.hid r1
 have HRG:=Lib.hid (pnt K P cs ws w1 hw (hK.upd HU1.out) (hP.upd HU1.out) hcl hcm)
 have HAC:=Lib.hid (fun W (u:Upd [] [] w W)=>pjp K P cs ws n x v c z W hw (hK.upd u) (hP.upd u) hl (fun c hc=>by have:=(hcm c hc).2.1;unfold Pn at this;omega) hn hx hv hc hz (htab.upd u))
 obtain ⟨b0,hb0⟩:∃ b,b=accB cs ws n x v c z:=⟨_,rfl⟩
 rw [← hb0] at HAC ⊢
 have d0:w1.cell? ⟨g,0,none⟩=some K:=cell_of_row _ g 0 _ _ _ HR0.out
 have d1:w1.cell? ⟨g,1,none⟩=some P:=cell_of_row _ g 1 _ _ _ HR0.out
 clear hw hK hP hcl hcm hl hn hx hv hc hz htab r0 r1 u0 u1 hb0
 go_enter Tryz.func148,Tryz.ntmps148
 go_wp2_with fail
 refine HRG.out.mono ?_
 rintro e w2 ⟨rfl,hq⟩
 have U2:=Lib.hid (HU1.out.trans hq)
 have q0:=paa HR0.out hq
 have q1:=paa HR1.out hq
 have e0:w2.cell? ⟨g,0,none⟩=some K:=cell_of_row _ g 0 _ _ _ q0
 have e1:w2.cell? ⟨g,1,none⟩=some P:=cell_of_row _ g 1 _ _ _ q0
 have f0:w2.cell? ⟨g2,0,none⟩=some (.int .i64 x):=cell_of_row _ g2 0 _ _ _ q1
 have f1:w2.cell? ⟨g2,1,none⟩=some (.int .i64 v):=cell_of_row _ g2 1 _ _ _ q1
 have f2:w2.cell? ⟨g2,2,none⟩=some (.int .i64 c):=cell_of_row _ g2 2 _ _ _ q1
 have f3:w2.cell? ⟨g2,3,none⟩=some (.int .i64 z):=cell_of_row _ g2 3 _ _ _ q1
 clear hq q0 q1 d0 d1
 go_wp2_with fail
 refine (HAC.out _ U2.out).mono ?_
 rintro e w3 ⟨b,HB,rfl,hq⟩
 go_wp2_with fail
 go_ret
 exact ⟨b,HB,rfl,U2.out.trans hq⟩
theorem pqp (wq:World) (T U:TypeId) (Z Y RA RB:Array Value):∃ (wA wB wC wD:World) (gA gB:Nat),wq.heap.size=gA∧wq.alloc (.cells Z T)=wA∧wA.heap.size=gB∧wA.alloc (.cells Y U)=wB ∧
 Hid (wB.heap[gA]? =some (.cells Z T (0,0)))∧Hid (wB.setRow gA RA=wC)∧Hid (wC.heap[gB]? =some (.cells Y U (0,0)))∧Hid (wC.setRow gB RB=wD) ∧
 Hid (wD.heap[gA]? =some (.cells RA T (0,0)))∧Hid (wD.heap[gB]? =some (.cells RB U (0,0)))∧Upd [] [] wq wD:=by
 have r1:=heap_alloc_new wq (.cells Z T)
 have u1:Upd [] [] wq (wq.alloc (.cells Z T)):=(Upd.refl _ _).alloc _
 have hs:(wq.alloc (.cells Z T)).heap.size=wq.heap.size+1:=by simp
 have r2:=heap_alloc_new (wq.alloc (.cells Z T)) (.cells Y U)
 have u2:Upd [] [] (wq.alloc (.cells Z T)) ((wq.alloc (.cells Z T)).alloc (.cells Y U)):=(Upd.refl _ _).alloc _
 have q1:=paa r1 u2
 have ne1:wq.heap.size≠(wq.alloc (.cells Z T)).heap.size:=by rw [hs];omega
 have b3:=pal r2 ne1.symm RA
 exact ⟨_,_,_,_,_,_,rfl,rfl,rfl,rfl,q1,rfl,b3,rfl,pal (setRow_heap _ _ _ _ _ _ q1) ne1 RB,setRow_heap _ _ _ _ _ _ b3,((u1.trans u2).setRowNew (Nat.le_refl _) RA).setRowNew (by rw [hs];omega) RB⟩
section
variable {M : Array Value} {aw ar as' bw br bs' low high id pub : Int} {aT bT F A B : ByteArray}
end
structure MtMore (M:Array Value) (L K P:Value) (i ci ck c1 c2:Int):Prop where
 l:M[0]? =some L
 k:M[1]? =some K
 p:M[2]? =some P
 i:M[25]? =some (.int .i64 i)
 c:M[21]? =some (.int .i64 ci)∧M[22]? =some (.int .i64 ck)∧M[23]? =some (.int .i64 c1)∧M[24]? =some (.int .i64 c2)
theorem piw (b:Nat) (n c:Nat) (zs:List Nat) (x:Int) (q:Bool) (w:World) (h:Sl w (.slice (some ⟨b,0,none⟩) n c) zs) (hn:n=zs.length) (hl:n≤1000000) (hq:(zs.map fun y:Nat=>(y:Int)).contains x=q):Calls Tryz.prog 147 #[.slice (some ⟨b,0,none⟩) n c,.int .i64 x] w (Ret (.bool q) w):=by
 refine (Tryz.slices_Contains_int b 0 n c (zs.map fun y:Nat=>(y:Int)) x w (by simp;omega) (by omega) (fun j hj=>?_)).mono ?_
 · rw [List.length_map] at hj
   obtain ⟨y,hy⟩:∃ y,zs[j]? =some y:=⟨_,List.getElem?_eq_getElem hj⟩
   rw [Nat.zero_add,h.at hy,List.getD_eq_getElem?_getD,List.getElem?_map,hy]
   rfl
 · rintro e w' ⟨rfl,rfl⟩
   refine ⟨?_,rfl⟩
   rw [List.take_of_length_le (by simp;omega),hq]
def wrgB (cs ws:List Nat) (k zz:Nat) (id:Int) (ev:EvG) (ep x v c z:Int):Bool:=decide (ep=0) && decide (ev.h=id) && ((pcl ws k zz).map fun y:Nat=>(y:Int)).contains x && !accB cs ws ev.n x v c z
section
variable {M : Array Value} {aw ar as' bw br bs' low high id pub ci ck c1 c2 : Int} {aT bT F A B : ByteArray} {L K P : Value}
set_option maxHeartbeats 8000000 in
theorem pfN (h:MtIs M aw aT ar as' bw bT br bs' low high F A B id pub) (k:Nat) (mm:MtMore M L K P (k:Int) ci ck c1 c2) (ht:aT.size≤900000) (hp:∃ ev ep x v c z,pdP (bs aT) ev ep x v c z) (cs ws:List Nat) (zz:Nat) (w:World) (hw:WsOk ws) (hk:ws[k]? =some zz) (hK:Sl w K cs) (hP:pdr w P (pcH ws)) (hcl:cs.length=needN ws.sum) (hcm:∀ c∈cs,memN c) (hl:cs.length≤1000) (htab:Tabs w) :
 Calls Tryz.prog 95 #[.agg M] w (pcP (fun b=>∃ ev ep x v c z,pdP (bs aT) ev ep x v c z∧b=wrgB cs ws k zz id ev ep x v c z) w):=by
 obtain ⟨g,hg⟩:∃ g,w.heap.size=g:=⟨_,rfl⟩
 obtain ⟨w0,hw0⟩:∃ W,w.alloc (.cells M 103)=W:=⟨_,rfl⟩
 have r0:=Lib.hid (show w0.heap[g]? =some (.cells M 103 (0,0)) by rw [← hg,← hw0];exact heap_alloc_new _ _)
 have u0:=Lib.hid (show Upd [] [] w w0 by rw [← hw0];exact (Upd.refl _ _).alloc _)
 have HPT:=Lib.hid (pfs aT ht w0 (htab.upd u0.out))
 have c9:=(cell_of_row _ g 9 _ _ _ r0.out).trans h.a1
 have hkl:=(List.getElem?_eq_some_iff.1 hk).1
 obtain ⟨pa,pc,rfl,_,_,hpg⟩:=hP
 obtain ⟨gp,u,rfl,hgp,cu,hu⟩:=hpg k _ (pcM hk)
 obtain ⟨ua,uc,rfl,_,_⟩:=hu.form
 rw [pb2] at cu hu
 rw [pbw] at mm
 obtain ⟨m,hm⟩:∃ m,m=ws.length:=⟨_,rfl⟩
 have hP:pdr w (.slice (some ⟨gp,0,none⟩) m pc) (pcH ws):=⟨_,pc,by rw [hm,pbw],by assumption,by assumption,hpg⟩
 rw [← hm] at mm hkl
 obtain ⟨S,hS⟩:∃ S:Array Value,S=#[K,.slice (some ⟨gp,0,none⟩) m pc]:=⟨_,rfl⟩
 have HKM:Hid (∀ W,Upd [] [] w0 W→W.cell? ⟨g,2,none⟩=some (.slice (some ⟨gp,0,none⟩) m pc)∧W.cell? ⟨g,25,none⟩=some (.int .i64 (k:Int))∧W.cell? ⟨g,26,none⟩=some (.int .i64 id)∧W.cell? ⟨gp,k,none⟩=some (.slice ua zz uc)∧(Instr.loadAt 28 (.pointer (some ⟨g,1,none⟩))).run Tryz.prog W=.ok (.agg S) W):=fun W v=>by
  have q:=paa r0.out v
  refine ⟨(cell_of_row _ g 2 _ _ _ q).trans mm.p,(cell_of_row _ g 25 _ _ _ q).trans mm.i,(cell_of_row _ g 26 _ _ _ q).trans h.i,((u0.out.trans v).cell (p:=⟨gp,k,none⟩) hgp (by simp)).trans cu,?_⟩
  rw [hS]
  refine run_loadAt_mid W g 1 28 [K,.slice (some ⟨gp,0,none⟩) m pc] _ (fun j v hv=>?_) Tryz.underlying28 rfl (by show _=some 2;kernel_rfl)
  match j,hv with
  | 0,hv=>simp at hv;subst hv;exact (cell_of_row _ g 1 _ _ _ q).trans mm.k
  | 1,hv=>simp at hv;subst hv;exact (cell_of_row _ g 2 _ _ _ q).trans mm.p
 obtain ⟨b,HB0,HCT⟩:∃ b,Hid (ua=some ⟨b,0,none⟩)∧Hid (∀ (x:Int) (q:Bool) W,Upd [] [] w W→((pcl ws k zz).map fun y:Nat=>(y:Int)).contains x=q→Calls Tryz.prog 147 #[.slice ua zz uc,.int .i64 x] W (Ret (.bool q) W)):=by
  have h1:=hw.2.2 zz (List.mem_of_getElem? hk)
  have hlen:=pb2 ws k zz
  obtain ⟨b,e,_⟩:=hu.get (k:=0) (d:=startN ws k+0+1) (pia (by omega))
  subst e
  exact ⟨b,rfl,fun x q W v hq=>piw b zz uc _ x q W (hu.upd v) hlen.symm (by omega) hq⟩
 have HVR:=Lib.hid (fun (n x v c z:Int) (hn:pab n) (hx:pab x) (hv:pab v) (hc:pab c) (hz:pab z) W (vv:Upd [] [] w W)=>pjA K (.slice (some ⟨gp,0,none⟩) m pc) cs ws n x v c z W hw (hK.upd vv) (hP.upd vv) hcl hcm hl hn hx hv hc hz (htab.upd vv))
 rw [← hS] at HVR
 have HPX:=Lib.hid hp
 clear h mm hp hk hK hP hpg hcl hcm hl hu cu hgp hw htab hm hS
 go_enter Tryz.func95,Tryz.ntmps95
 go_wp2_with fail
 refine HPT.out.mono ?_
 rintro e w1 ⟨EV,ep,x,v,c,z,ok,HEV,HPP,rfl,hq⟩
 obtain ⟨ev,HIP⟩:∃ ev,Hid (EV=ev.V.toArray∧pdP (bs aT) ev ep x v c z):=by
  rcases HPP.out with ⟨_,ev,he,hpar⟩ | ⟨_,hn⟩
  · exact ⟨ev,he,hpar⟩
  · obtain ⟨ev,a1,a2,a3,a4,a5,hpar⟩:=HPX.out
    exact absurd hpar (hn _ _ _ _ _ _)
 have HRG:Hid (pab ev.n∧pab x∧pab v∧pab c∧pab z):=by
  obtain ⟨hcode,_,_,_,_,hprt⟩:=HIP.out.2
  exact ⟨hcode.1.2.2.2.2.1,hprt.1,hprt.2.1,hprt.2.2.1,hprt.2.2.2.1⟩
 obtain ⟨n,hn⟩:∃ n,n=ev.n:=⟨_,rfl⟩
 obtain ⟨who,hwho⟩:∃ n,n=ev.h:=⟨_,rfl⟩
 have HE2:Hid (EV[2]? =some (.int .i64 who)):=by show _=_;rw [HIP.out.1,hwho];rfl
 have HE4:Hid (EV[4]? =some (.int .i64 n)):=by show _=_;rw [HIP.out.1,hn];rfl
 obtain ⟨PV,hPV⟩:∃ PV:Array Value,PV=#[.int .i64 x,.int .i64 v,.int .i64 c,.int .i64 z]:=⟨_,rfl⟩
 have HP0:Hid (PV[0]? =some (.int .i64 x)):=by show _=_;rw [hPV];rfl
 have HPI:Hid ((Tryz.prog.info? 40).map (·.size)=some PV.size):=by rw [hPV];exact pcb _ _ _ _
 have HPO:Hid (PV.all (·.oneCell')=true):=by rw [hPV];exact pdQ _ _ _ _
 have HPZ:Hid ((#[.int .i64 0,.int .i64 0,.int .i64 0,.int .i64 0]:Array Value).size=PV.size):=by rw [hPV];rfl
 obtain ⟨wA,wB,wC,wD,gE,gQ,hgE,hwA,hgQ,hwB,ZA,WC,ZB,WD,FA,FB,hu2⟩:=pqp w1 53 40 evZ.toArray #[.int .i64 0,.int .i64 0,.int .i64 0,.int .i64 0] EV PV
 rw [← paz] at hwA ZA
 have HZ1:Hid ((#[.int .i64 0,.int .i64 0,.int .i64 0,.int .i64 0,.int .i64 0,.string ⟨#[]⟩,.int .u8 0,.int .u8 0,.int .u8 0,.int .u8 0,.int .u8 0,.int .u8 0,.int .u8 0,.int .u8 0,.int .u8 0,.int .u8 0,.int .u8 0,.int .u8 0,.int .u8 0,.int .u8 0,.int .u8 0,.int .u8 0,.int .u8 0,.int .u8 0,.int .u8 0,.int .u8 0,.int .u8 0,.int .u8 0,.int .u8 0,.int .u8 0,.int .u8 0,.int .u8 0,.int .u8 0,.int .u8 0,.int .u8 0,.int .u8 0,.int .u8 0,.int .u8 0,.int .i64 0,.int .i64 0]:Array Value).size=EV.size):=by show _=_;rw [paz];exact HEV.out.2.2
 have U:=Lib.hid ((u0.out.trans hq).trans hu2)
 have HKD:=Lib.hid (HKM.out wD (hq.trans hu2))
 have hPV3:=Lib.hid hPV
 have FA3:=Lib.hid FA.out
 have FB3:=Lib.hid FB.out
 have hq3:=Lib.hid (hq.trans hu2)
 rw [← hPV]
 have HXX:=Lib.hid (And.intro hn hwho)
 clear hq hu2 HPT hPV hn hwho HPP HPX c9
 have m2:=HKD.out.1
 go_upto_region 3 with (first | (refine wpList_store_rowAs rfl 53 _ _ rfl gE EV rfl rfl _ _ ZA.out HEV.out.1 HZ1.out HEV.out.2.1 wC WC.out ?_) | (refine wpList_store_rowAs rfl 40 _ _ rfl gQ PV rfl rfl _ _ ZB.out HPI.out HPZ.out HPO.out wD WD.out ?_))
 have e2:=(cell_of_row _ gE 2 _ _ _ FA.out).trans HE2.out
 have e4:=(cell_of_row _ gE 4 _ _ _ FA.out).trans HE4.out
 have p0:=(cell_of_row _ gQ 0 _ _ _ FB.out).trans HP0.out
 obtain ⟨_,m25,m26,mk,_⟩:=HKD.out
 clear HZ1 ZA WC ZB WD FA FB hgE hgQ hwA hwB
 by_cases g1:ep=0
 case neg =>
  have g1b:(ep == 0)=false:=by rw [beq_eq_false_iff_ne];exact g1
  have g1c:(ep != 0)=true:=by rw [bne,g1b];rfl
  clear m2 m25 m26 mk e2 e4 p0
  go_quiet (fail)
  go_wp2_with fail
  go_ret
  exact ⟨false,⟨ev,ep,x,v,c,z,HIP.out.2,by unfold wrgB;rw [decide_eq_false g1,Bool.false_and,Bool.false_and,Bool.false_and]⟩,rfl,U.out.drewN _⟩
 subst g1
 by_cases g2:who=id
 case neg =>
  have g2b:(who == id)=false:=by rw [beq_eq_false_iff_ne];exact g2
  have g2c:(who != id)=true:=by rw [bne,g2b];rfl
  have HN:=Lib.hid g2
  clear m2 m25 mk e4 p0 g2
  go_quiet (fail)
  go_wp2_with fail
  go_ret
  exact ⟨false,⟨ev,0,x,v,c,z,HIP.out.2,by unfold wrgB;rw [← HXX.out.2,decide_eq_false HN.out,Bool.and_false,Bool.false_and,Bool.false_and]⟩,rfl,U.out.drewN _⟩
 subst g2
 have g3:¬ (m:Int)≤(k:Int):=by omega
 have g3b:decide ((m:Int)≤(k:Int))=false:=decide_eq_false g3
 have k0:(0:Int)≤(k:Int):=by omega
 have k1:(k:Int)<(m:Int):=by omega
 obtain ⟨q,hq⟩:∃ q,((pcl ws k zz).map fun y:Nat=>(y:Int)).contains x=q:=⟨_,rfl⟩
 have HW:Hid (∀ bv,bv=(q && !accB cs ws n x v c z)→bv=wrgB cs ws k zz who ev 0 x v c z):=by
  intro bv hbv
  unfold wrgB
  rw [hbv,decide_eq_true rfl,← HXX.out.2,decide_eq_true rfl,hq,HXX.out.1]
  rfl
 have HCD:=Lib.hid (fun n=>HCT.out x q (wD.drewN n) (U.out.drewN _) hq)
 clear m2 hq HCT e4 hkl
 cases q with
 | false =>
  go_quiet ((go_at_call 147;exact peS (HCD.out _)))
  go_wp2_with fail
  go_ret
  exact ⟨false,⟨ev,0,x,v,c,z,HIP.out.2,HW.out _ rfl⟩,rfl,U.out.drewN _⟩
 | true =>
  go_quiet ((go_at_call 147;exact peS (HCD.out _)))
  obtain ⟨wE,hwE⟩:∃ W,wD.drewN nq=W:=⟨_,rfl⟩
  have uE:Upd [] [] wD wE:=by rw [← hwE];exact (Upd.refl _ _).drewN nq
  have UE:=Lib.hid (U.out.trans uE)
  have HLP2:=Lib.hid (pbi hPV3.out (paa FB3.out uE))
  have HLS:=Lib.hid ((HKM.out wE (hq3.out.trans uE)).2.2.2.2)
  have e4:=(cell_of_row _ gE 4 _ _ _ (paa FA3.out uE)).trans HE4.out
  have HV:=Lib.hid (HVR.out n x v c z (by rw [HXX.out.1];exact HRG.out.1) HRG.out.2.1 HRG.out.2.2.1 HRG.out.2.2.2.1 HRG.out.2.2.2.2 wE UE.out)
  rw [← hPV3.out] at HV
  clear m25 m26 mk e2 p0 uE HCD HVR
  rw [hwE]
  clear hwE
  go_wp2_with (first | (refine wpList_load_atW (by rfl) 28 _ rfl g 1 rfl S HLS.out ?_) | (refine wpList_load_atW (by rfl) 40 _ rfl gQ 0 rfl PV HLP2.out ?_))
  refine HV.out.mono ?_
  rintro e wF ⟨bv,HB,rfl,hq⟩
  have UF:=Lib.hid (UE.out.trans hq)
  clear hq HV e4 HLS HLP2
  go_wp2_with fail
  go_ret
  exact ⟨!bv,⟨ev,0,x,v,c,z,HIP.out.2,HW.out _ (by rw [HB.out];rfl)⟩,rfl,UF.out⟩
end
structure Hv where
 who:Int
 T:ByteArray
 r:Int
 s:Int
def Hv.ok (v:Hv):Prop:=pab v.who∧v.T.size≤2000∧pab v.r∧pab v.s
def pqq:List UInt8:=[104,97,115,104]
def HonP (l:List Int) (n:Nat) (m:Int) (x:List UInt8):Prop :=
 ∃ p y:Nat,p≤60∧x=Lib.itoa ((n % 2:Nat):Int) ++ 32 :: pcO (p:Int) (prtV y m:Int) (prtC y m:Int) (prtZ y m:Int)∧(n % 2=0→1≤p∧p≤(wsN l (pax l)).sum∧y=valN (pbm (needN (wsN l (pax l)).sum) (pax l)) p)
def HonE (l:List Int) (k q0 i:Nat) (ev:EvG):Prop :=
 ev.ok∧ev.q=(i:Int)∧ev.h=((k+1:Nat):Int)∧ev.x.size≤1000∧((i % 2=0∧ev.k=5∧ev.n=((q0+i / 2:Nat):Int)∧HonP l (i / 2) ev.n (bs ev.x))∨(i % 2=1∧ev.k=4∧ev.n=((i / 2:Nat):Int)∧bs ev.x=pqq))
def Hon (l:List Int) (k q0 q1 i:Nat) (v:Hv):Prop :=
 v.ok∧v.who=((k+1:Nat):Int)∧((i<12∧∃ ev,HonE l k q0 i ev∧bs v.T=ev.text)∨(i=12∧bs v.T=pbI (q1:Int) ((q1+1:Nat):Int) q1 (q1 * q1)))
theorem pnT {t:List UInt8} {e:EvG} (h:pan (preE ++ t) e):t=e.text:=by
 have h1:Lib.itoa 0 ++ 32 :: (Lib.itoa 0 ++ 32 :: t)=Lib.itoa e.r ++ 32 :: (Lib.itoa e.s ++ 32 :: e.text):=by
  have e0:Lib.itoa 0=[48]:=phV
  rw [e0]
  exact h.2
 have c1:=pbf 32 (Lib.itoa 0) (Lib.itoa 0 ++ 32 :: t) (itoa_no32 _)
 rw [h1,pbf 32 _ _ (itoa_no32 _)] at c1
 injection c1 with _ c1
 injection c1 with c1 _
 have c2:=pbf 32 (Lib.itoa 0) t (itoa_no32 _)
 rw [← c1,pbf 32 _ _ (itoa_no32 _)] at c2
 injection c2 with _ c2
 injection c2 with c2 _
 exact c2.symm
theorem code_is {t:List UInt8} {e f:EvG} (h:pan (preE ++ t) e) (hf:f.ok) (ht:t=f.text) (hz:f.x.size≤1000):e.q=f.q∧e.k=f.k∧e.h=f.h∧e.n=f.n∧e.x=f.x:=by
 have hf0:({ f with r:=0,s:=0 }:EvG).ok:=⟨hf.1,hf.2.1,hf.2.2.1,hf.2.2.2.1,hf.2.2.2.2.1,hf.2.2.2.2.2.1,by unfold pab;simp,by unfold pab;simp⟩
 have hc:pan (preE ++ t) ({ f with r:=0,s:=0 }:EvG):=⟨hf0,by
  have e0:Lib.itoa 0=[48]:=phV
  rw [ht]
  unfold EvG.code
  show _=Lib.itoa 0 ++ 32 :: (Lib.itoa 0 ++ 32 :: f.text)
  rw [e0]
  rfl⟩
 have hl:(preE ++ t).length≤1000000:=by
  have:=f.text_len hf (by omega)
  rw [← ht] at this
  simp only [List.length_append]
  have e4:preE.length=4:=rfl
  omega
 have hs:=h.size
 have e1:=pcn h hc (by omega) (by show f.x.size≤_;omega)
 rw [e1]
 exact ⟨rfl,rfl,rfl,rfl,rfl⟩
theorem pix (e:EvG):∃ r,e.text=101 :: r:=⟨_,rfl⟩
theorem pgq (lo hi:Int) (x y:Nat):∃ r,pbI lo hi x y=99 :: 108 :: r:=by
 rw [pgp]
 exact ⟨_,rfl⟩
theorem bal_head {t:List UInt8} {b:Bal} (h:pa0 t b):(∃ r,t=112 :: r)∨∃ r,t=99 :: 111 :: r:=by
 obtain ⟨⟨hk,_⟩,rfl⟩:=h
 have e:b.text=b.k ++ ([32] ++ Lib.join [Lib.itoa b.h,Lib.itoa b.v,b.x] [32]):=by
  unfold Bal.text Bal.words
  exact pbS _ _ _ _
 rw [e]
 rcases hk with hk | hk | hk <;> rw [hk]
 · exact .inl ⟨_,rfl⟩
 · exact .inl ⟨_,rfl⟩
 · exact .inr ⟨_,rfl⟩
section
variable {l : List Int} {k q0 q1 i j : Nat} {a b : Hv}
theorem Hon.head (h:Hon l k q0 q1 i a):(∃ r,bs a.T=101 :: r)∨∃ r,bs a.T=99 :: 108 :: r:=by
 obtain ⟨_,_,⟨_,ev,_,e⟩ | ⟨_,e⟩⟩:=h
 · rw [e];exact .inl (pix ev)
 · rw [e];exact .inr (pgq _ _ _ _)
theorem Hon.noBal (h:Hon l k q0 q1 i a) (x:Bal):¬ pa0 (bs a.T) x:=fun hb=>by
 rcases h.head with ⟨r,e⟩ | ⟨r,e⟩ <;> rcases bal_head hb with ⟨s,f⟩ | ⟨s,f⟩ <;> rw [e] at f <;> simp at f
theorem Hon.noDlg (h:Hon l k q0 q1 i a):¬ ∃ ep d,pfM (bs a.T) ep d:=fun ⟨ep,d,hd⟩=>by
 obtain ⟨_,t,e,_⟩:=hd
 rcases h.head with ⟨r,f⟩ | ⟨r,f⟩ <;> rw [e] at f <;> simp [wDlg] at f
theorem Hon.code (h:Hon l k q0 q1 i a) {e:EvG} (hc:pan (preE ++ bs a.T) e):i<12∧∃ ev,HonE l k q0 i ev∧e.q=ev.q∧e.k=ev.k∧e.h=ev.h∧e.n=ev.n∧e.x=ev.x:=by
 obtain ⟨_,_,⟨hi,ev,he,ht⟩ | ⟨_,ht⟩⟩:=h
 · exact ⟨hi,ev,he,code_is hc he.1 ht he.2.2.2.1⟩
 · have h1:=pnT hc
   obtain ⟨r,e1⟩:=pgq (q1:Int) ((q1+1:Nat):Int) q1 (q1 * q1)
   obtain ⟨s,e2⟩:=pix e
   rw [ht,e1,e2] at h1
   simp at h1
theorem Hon.double (ha:Hon l k q0 q1 i a) (hb:Hon l k q0 q1 j b) (hij:i=j→a=b) {c:Bool} (h:ConR (bs a.T) (bs b.T) c):c=false:=by
 by_cases e:bs a.T=bs b.T
 · exact h.1 e
 · obtain ⟨h1,h2⟩:=(h.2 e).2 (fun ⟨⟨x,hx⟩,_⟩=>ha.noBal x hx)
   by_cases hh:(∃ e,pan (preE ++ bs a.T) e)∧∃ f,pan (preE ++ bs b.T) f
   · obtain ⟨⟨e',he⟩,f',hf⟩:=hh
     have h3:=h1 e' f' he hf
     obtain ⟨_,ev,h4,h5,_⟩:=ha.code he
     obtain ⟨_,fv,h6,h7,_⟩:=hb.code hf
     have hne:i≠j:=fun x=>e (by rw [hij x])
     cases hc:c with
     | false=>rfl
     | true =>
      have:=h3.1 hc
      rw [h5,h7,h4.2.1,h6.2.1] at this
      omega
   · exact h2 hh
theorem Hon.lock (ha:Hon l k q0 q1 i a) {x:EvG} (h:pb3 (bs a.T) x):bs x.x=pqq:=by
 obtain ⟨_,ev,he,_,h2,_,_,h5⟩:=ha.code h.1
 obtain ⟨_,_,_,_,⟨_,e,_⟩ | ⟨_,_,_,e⟩⟩:=he
 · rw [e,h.2] at h2
   omega
 · rw [h5,e]
theorem Hon.part (ha:Hon l k q0 q1 i a) {ev:EvG} {ep x v c z:Int} (h:pdP (bs a.T) ev ep x v c z) (kk zz:Nat) (id:Int) :
 wrgB (mixL (dsN (wsN l (pax l)) pbx (pax l)) (needN (wsN l (pax l)).sum)) (wsN l (pax l)) kk zz id ev ep x v c z=false:=by
 obtain ⟨hc,h5,hep,r,hx,hp⟩:=h
 obtain ⟨_,ev',he,_,h2,_,h4,h6⟩:=ha.code hc
 obtain ⟨_,_,_,_,⟨_,_,_,p,y,hp60,e,hy⟩ | ⟨_,e,_⟩⟩:=he
 · rw [← h6,hx] at e
   have c1:=pbf 32 (Lib.itoa ep) r (itoa_no32 _)
   rw [e,pbf 32 _ _ (itoa_no32 _)] at c1
   injection c1 with c1 c2
   injection c2 with c2 _
   have hepv:((i / 2 % 2:Nat):Int)=ep:=paI (by unfold pab;omega) hep c1
   have hv:=pnp (by unfold pab;omega) (by have:=prq (baseN ev'.n) y;unfold pab;show _∧(prtV y ev'.n:Int)≤_;unfold prtV;unfold Pn at this;omega) (by have:=pjS 4 (pP 4 y) (baseN ev'.n) (pP (baseN ev'.n) y) (pP 4 (nonceE y 4 (baseN ev'.n))) (pP (baseN ev'.n) (nonceE y 4 (baseN ev'.n)));unfold pab;show _∧(prtC y ev'.n:Int)≤_;unfold prtC cWith;unfold Qn at this;omega) (by have:=Nat.mod_lt (nonceE y 4 (baseN ev'.n)+cWith y 4 (baseN ev'.n) (nonceE y 4 (baseN ev'.n)) * y) peg;unfold pab;show _∧(prtZ y ev'.n:Int)≤_;unfold prtZ zWith;unfold Qn at this ⊢;omega) hp.1 hp.2.1 hp.2.2.1 hp.2.2.2.1 (c2.trans hp.2.2.2.2)
   obtain ⟨rfl,rfl,rfl,rfl⟩:=hv
   unfold wrgB
   by_cases h0:i / 2 % 2=0
   · obtain ⟨g1,g2,g3⟩:=hy h0
     rw [h4,pnx _ _ _ _ g1 g2 y g3]
     simp
   · have hz:ep≠0:=by rw [← hepv];omega
     simp [hz]
 · rw [e,h5] at h2
   omega
end
end Go.Proofs.YtheobkejohifaaaGreatDoor
