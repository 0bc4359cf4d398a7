/- court.formTwoLocks and what follows. -/
import Derived.Test.YtmjlkkbbnkanpaaGreatDoorHAA
import Derived.Test.YtmjlkkbbnkanpaaGreatDoorHBG
import Derived.Test.YtmjlkkbbnkanpaaGreatDoorHBI
import Derived.Test.YtmjlkkbbnkanpaaGreatDoorHBA
import Derived.Test.YtmjlkkbbnkanpaaGreatDoorHBD
import Derived.Test.YtmjlkkbbnkanpaaGreatDoorHBE
import Derived.Test.YtmjlkkbbnkanpaaGreatDoorHAJ
import Derived.Test.YtmjlkkbbnkanpaaGreatDoorHAI
import Derived.Test.YtmjlkkbbnkanpaaGreatDoorHAL
namespace Go.Proofs.YtmjlkkbbnkanpaaGreatDoor
open Go.RowKit
set_option maxRecDepth 100000
section
variable {M : Array Value} {aw ar as' bw br bs' low high id pub : Int} {aT bT F A B : ByteArray}
set_option maxHeartbeats 4000000 in
theorem formTwo_any (h:MtIs M aw aT ar as' bw bT br bs' low high F A B id pub) (ht:aT.size≤900000) (ht2:bT.size≤900000) (w:World) (htab:Tabs w) :
 Calls Tryz.prog 91 #[.agg M] w (MkPB2 (fun b=>b=true ↔ (∃ ev,IsLck (bs aT) ev)∧∃ ev,IsLck (bs bT) ev) w):=by
 obtain ⟨g,hg⟩:∃ g,w.heap.size=g:=⟨_,rfl⟩
 obtain ⟨w0,hw0⟩:∃ W,w.alloc (.cells M 106)=W:=⟨_,rfl⟩
 have r0:=Lib.hid (show w0.heap[g]? =some (.cells M 106 (0,0)) by rw [← hg,← hw0];exact heap_alloc_new _ _)
 have u0:=Lib.hid (show Upd [] [] w w0 by rw [← hw0];exact (Upd.refl _ _).alloc _)
 have HK:Hid (∀ W,Upd [] [] w0 W→W.cell? ⟨g,9,none⟩=some (.string aT)∧W.cell? ⟨g,13,none⟩=some (.string bT)):=fun W u=>⟨(cell_of_row _ g 9 _ _ _ (row_updH r0.out u)).trans h.a1,(cell_of_row _ g 13 _ _ _ (row_updH r0.out u)).trans h.b1⟩
 have HB:=Lib.hid (fun W (u:Upd [] [] w W)=>isLock_any bT ht2 W (htab.upd u))
 have HA:=Lib.hid (isLock_any aT ht w0 (htab.upd u0.out))
 obtain ⟨c1,c2⟩:=HK.out w0 (Upd.refl _ _)
 clear h
 go_enter Tryz.func91,Tryz.ntmps91
 go_wp2_with fail
 refine HA.out.mono ?_
 rintro e w1 ⟨EV,b1,HI,HR,rfl,hq⟩
 obtain ⟨w2,Z2,W2,R2,hq2⟩:=blk_new w1 66 evZ.toArray EV
 rw [← zero_ev] at Z2 W2
 obtain ⟨gE,hgE⟩:∃ g,w1.heap.size=g:=⟨_,rfl⟩
 rw [hgE] at Z2 W2 R2
 have V2:=Lib.hid (hq.trans hq2)
 have HZ1:Hid ((#[.int .i64 0,.int .i64 0,.int .i64 0,.int .i64 0,.int .i64 0,.string ⟨#[]⟩,.int .u8 0,.int .u8 0,.int .u8 0,.int .u8 0,.int .u8 0,.int .u8 0,.int .u8 0,.int .u8 0,.int .u8 0,.int .u8 0,.int .u8 0,.int .u8 0,.int .u8 0,.int .u8 0,.int .u8 0,.int .u8 0,.int .u8 0,.int .u8 0,.int .u8 0,.int .u8 0,.int .u8 0,.int .u8 0,.int .u8 0,.int .u8 0,.int .u8 0,.int .u8 0,.int .u8 0,.int .u8 0,.int .u8 0,.int .u8 0,.int .u8 0,.int .u8 0,.int .i64 0,.int .i64 0]:Array Value).size=EV.size):=by show _=_;rw [zero_ev];exact HI.out.2.2
 obtain ⟨c1,c2⟩:=HK.out w2 V2.out
 clear hq hq2 HA
 go_wp2_with (first | (refine wpList_store_rowAs rfl 66 _ _ rfl gE EV rfl rfl _ _ Z2.out HI.out.1 HZ1.out HI.out.2.1 w2 W2.out ?_))
 refine (HB.out w2 (u0.out.trans V2.out)).mono ?_
 rintro e w3 ⟨EW,b2,HI2,HR2,rfl,hq⟩
 obtain ⟨w4,Z4,W4,R4,hq4⟩:=blk_new w3 66 evZ.toArray EW
 rw [← zero_ev] at Z4 W4
 obtain ⟨gF,hgF⟩:∃ g,w3.heap.size=g:=⟨_,rfl⟩
 rw [hgF] at Z4 W4 R4
 have V4:=Lib.hid ((V2.out.trans hq).trans hq4)
 have HZ2:Hid ((#[.int .i64 0,.int .i64 0,.int .i64 0,.int .i64 0,.int .i64 0,.string ⟨#[]⟩,.int .u8 0,.int .u8 0,.int .u8 0,.int .u8 0,.int .u8 0,.int .u8 0,.int .u8 0,.int .u8 0,.int .u8 0,.int .u8 0,.int .u8 0,.int .u8 0,.int .u8 0,.int .u8 0,.int .u8 0,.int .u8 0,.int .u8 0,.int .u8 0,.int .u8 0,.int .u8 0,.int .u8 0,.int .u8 0,.int .u8 0,.int .u8 0,.int .u8 0,.int .u8 0,.int .u8 0,.int .u8 0,.int .u8 0,.int .u8 0,.int .u8 0,.int .u8 0,.int .i64 0,.int .i64 0]:Array Value).size=EW.size):=by show _=_;rw [zero_ev];exact HI2.out.2.2
 have HX1:Hid (b1=true ↔ ∃ ev,IsLck (bs aT) ev):=by
  show _ ↔ _
  rcases HR.out with ⟨h,ev,hp,_⟩ | ⟨h,hn⟩
  · exact ⟨fun _=>⟨ev,hp⟩,fun _=>h⟩
  · exact ⟨(fun hk=>by rw [h] at hk;cases hk),fun ⟨ev,hp⟩=>absurd hp (hn ev)⟩
 have HX2:Hid (b2=true ↔ ∃ ev,IsLck (bs bT) ev):=by
  show _ ↔ _
  rcases HR2.out with ⟨h,ev,hp,_⟩ | ⟨h,hn⟩
  · exact ⟨fun _=>⟨ev,hp⟩,fun _=>h⟩
  · exact ⟨(fun hk=>by rw [h] at hk;cases hk),fun ⟨ev,hp⟩=>absurd hp (hn ev)⟩
 clear hq hq4 HB c1 c2 hgE
 cases b1 with
 | false =>
  go_wp2_with (first | (refine wpList_store_rowAs rfl 66 _ _ rfl gF EW rfl rfl _ _ Z4.out HI2.out.1 HZ2.out HI2.out.2.1 w4 W4.out ?_))
  go_ret
  exact ⟨false,⟨(fun h=>by cases h),fun h=>HX1.out.2 h.1⟩,rfl,u0.out.trans V4.out⟩
 | true =>
  go_wp2_with (first | (refine wpList_store_rowAs rfl 66 _ _ rfl gF EW rfl rfl _ _ Z4.out HI2.out.1 HZ2.out HI2.out.2.1 w4 W4.out ?_))
  go_ret
  exact ⟨b2,⟨(fun h=>⟨HX1.out.1 (by trivial),HX2.out.1 h⟩),fun h=>HX2.out.2 h.2⟩,rfl,u0.out.trans V4.out⟩
end
def MkCP (s p:ByteArray) (w:World) (e:Ending) (w':World):Prop:=∃ (r:ByteArray) (b:Bool),Hid ((b=true∧bs s=bs p ++ bs r)∨(b=false∧∀ t,bs s≠bs p ++ t))∧r.size≤s.size∧e=.returned (.tuple #[.string r,.bool b])∧w'=w
theorem cutPre_any (s p:ByteArray) (w:World) (_hs:s.size≤1000000000) (hp:p.size≤1000000):Calls Tryz.prog 201 #[.string s,.string p] w (MkCP s p w):=by
 have HI:Calls Tryz.prog 246 #[.string s,.string p] w (MkCP s p w):=by
  have HP:=Lib.hid (Tryz.stringslite_HasPrefix s p w)
  obtain ⟨q,hq⟩:∃ q,Lib.hasPrefix s.data.toList p.data.toList=q:=⟨_,rfl⟩
  rw [hq] at HP
  have HQ:=Lib.hid hq
  clear hq
  cases q with
  | false =>
   go_enter Tryz.func246,Tryz.ntmps246
   go_wp2_with (go_at_fn 220)
   refine HP.out.mono ?_
   rintro e w1 ⟨rfl,rfl⟩
   go_wp2_with fail
   go_ret2
   refine ⟨s,false,.inr ⟨rfl,fun t h=>?_⟩,Nat.le_refl _,rfl,rfl⟩
   have e:(bs p).isPrefixOf (bs s)=false:=HQ.out
   rw [h] at e
   rw [List.isPrefixOf_iff_prefix.2 ⟨t,rfl⟩] at e
   cases e
  | true =>
   have hpre:bs p <+: bs s:=List.isPrefixOf_iff_prefix.1 HQ.out
   obtain ⟨t,ht⟩:=hpre
   have hle:p.size≤s.size:=by
    have:=congrArg List.length ht
    rw [List.length_append,bs_length,bs_length] at this
    omega
   have HT:=Lib.hid ht
   have l1:(p.size:Int)≤(s.size:Int):=by omega
   have l2:¬ (s.size:Int)<(p.size:Int):=by omega
   clear ht
   go_enter Tryz.func246,Tryz.ntmps246
   go_wp2_with (go_at_fn 220)
   refine HP.out.mono ?_
   rintro e w1 ⟨rfl,rfl⟩
   go_wp2_with fail
   go_ret2
   have hx:bs (s.extract p.size s.size)=t:=by
    have hl:(bs s).length - (bs p).length=t.length:=by rw [← HT.out,List.length_append];omega
    rw [bs_extract,← bs_length p,← bs_length s,hl,← HT.out,List.drop_left,List.take_length]
   exact ⟨_,true,.inl ⟨rfl,by rw [hx];exact HT.out.symm⟩,by rw [ByteArray.size_extract];omega,rfl,rfl⟩
 go_enter Tryz.func201,Tryz.ntmps201
 go_wp2_with (go_at_fn 246)
 refine HI.mono ?_
 rintro e w1 ⟨r,b,HR,hr,rfl,rfl⟩
 clear HI
 go_wp2_with fail
 go_ret2
 exact ⟨r,b,HR,hr,rfl,rfl⟩
def wDlg:List UInt8:=[100,101,97,108,105,110,103,32]
def IsDlg (l:List UInt8) (ep:Int) (d:DlI):Prop:=i64in ep∧∃ t,l=wDlg ++ (Lib.itoa ep ++ 32 :: t)∧IsDl t d
theorem results_tct {P:Program} {fn:Func} {u1 p u2:Tmp} {ty:TypeId} (h:fn.results=#[.tmp u1,.cell p ty,.tmp u2]) (tmps:Array Value) (w:World) (g:Nat) (t:TypeId) (c:Array Value) (fr:Nat × Nat) (d:TypeDesc)
 (hp:tmps.getD p undef=.pointer (some ⟨g,0,none⟩)) (hg:w.heap[g]? =some (.cells c t fr)) (hu:P.underlying ty=some d) (hd:d.isRow=true) (hi:(P.info? ty).map (·.size)=some c.size) :
 (results fn tmps).run P w=.ok (.tuple #[tmps.getD u1 undef,.agg c,tmps.getD u2 undef]) w:=by
 have hl:(loadVar ty ⟨g,0,none⟩).run P w=.ok (.agg c) w:=by
  cases d with
  | struct fs=>exact run_loadVar_row w g t ty c fr _ hg hu rfl hi
  | array n e=>exact run_loadVar_row w g t ty c fr _ hg hu rfl hi
  | _=>cases hd
 have hp':tmps[p]?.getD undef=.pointer (some ⟨g,0,none⟩):=by rw [← hp];simp
 simp only [results,h]
 simp [Result.andThen,hp',asAddr,hl]
def MkDlg (l:List UInt8) (w:World) (e:Ending) (w':World):Prop :=
 ∃ (ep:Int) (cv bv:Value) (d:DlI) (ok:Bool),Hid ((ok=true∧IsDlg l ep d∧d.fit)∨(ok=false∧∀ ep d,¬ IsDlg l ep d))∧Hid (RdI w' cv d.coms∧RdS w' bv d.boxes)∧e=.returned (.tuple #[.int .i64 ep,.agg #[cv,.int .i64 d.point,bv],.bool ok])∧Upd [] [] w w'
theorem dgNo {l:List UInt8} {w W:World} (hn:∀ ep d,¬ IsDlg l ep d) (u:Upd [] [] w W):MkDlg l w (.returned (.tuple #[.int .i64 0,.agg dlZ,.bool false])) W :=
 ⟨0,_,_,⟨[],0,[]⟩,false,.inr ⟨rfl,hn⟩,⟨RdI.nil _,RdS.nil _⟩,rfl,u⟩
theorem RdI.same {w w':World} {v:Value} {l:List Int} (h:RdI w v l) (hs:∀ x,x∈foot v→w'.heap[x]? =w.heap[x]?):RdI w' v l:=by
 obtain ⟨ao,cap,rfl,h1,h2,hg⟩:=h
 refine ⟨ao,cap,rfl,h1,h2,fun k x hk=>?_⟩
 obtain ⟨g,rfl,hl,hc⟩:=hg k x hk
 have e:=hs g (by simp [foot,Value.ownBlock])
 exact ⟨g,rfl,blk_lt (e.trans (Array.getElem?_eq_getElem hl)),by rw [World.cell?_of_block (a:=⟨g,k,none⟩) e];exact hc⟩
theorem RdS.same {w w':World} {v:Value} {l:List (List UInt8)} (h:RdS w v l) (hs:∀ x,x∈foot v→w'.heap[x]? =w.heap[x]?):RdS w' v l:=by
 obtain ⟨ao,cap,rfl,h1,h2,hg⟩:=h
 refine ⟨ao,cap,rfl,h1,h2,fun k x hk=>?_⟩
 obtain ⟨g,rfl,hl,hc⟩:=hg k x hk
 have e:=hs g (by simp [foot,Value.ownBlock])
 exact ⟨g,rfl,blk_lt (e.trans (Array.getElem?_eq_getElem hl)),by rw [World.cell?_of_block (a:=⟨g,k,none⟩) e];exact hc⟩
theorem dl_runs {W:World} {g:Nat} {DV:Array Value} (hi:(Tryz.prog.info? 132).map (·.size)=some DV.size) (h:W.heap[g]? =some (.cells DV 132 (0,0))):(Instr.loadAt 132 (.pointer (some ⟨g,0,none⟩))).run Tryz.prog W=.ok (.agg DV) W :=
 run_loadAt_mid W g 0 132 DV.toList _ (row_range (by simp) h) Tryz.underlying132 rfl (by rw [Array.length_toList];exact hi)
set_option maxHeartbeats 4000000 in
theorem dealing_any (T:ByteArray) (hT:T.size≤900000) (w:World) (htab:Tabs w):Calls Tryz.prog 152 #[.string T] w (MkDlg (bs T) w):=by
 obtain ⟨gR,hgR⟩:∃ g,w.heap.size=g:=⟨_,rfl⟩
 obtain ⟨w1,hw1⟩:∃ W,w.alloc (.cells #[.slice none 0 0,.int .i64 0,.slice none 0 0] 132)=W:=⟨_,rfl⟩
 obtain ⟨DZ,hDZ⟩:∃ DZ,DZ=dlZ:=⟨_,rfl⟩
 have s1:=Lib.hid (show w1.heap[gR]? =some (.cells DZ 132 (0,0)) by rw [hDZ,← hgR,← hw1];exact heap_alloc_new _ _)
 have u1:=Lib.hid (show Upd [] [] w w1 by rw [← hw1];exact (Upd.refl _ _).alloc _)
 have HG:Hid (w.heap.size≤gR):=Nat.le_of_eq hgR
 have HDZ:=Lib.hid hDZ
 have HB0:Hid (Tryz.prog.built 132 []=some DZ):=by rw [hDZ];exact dlBuilt0
 have HI0:Hid ((Tryz.prog.info? 132).map (·.size)=some DZ.size):=by rw [hDZ];exact dlInfo _ _ _
 have HO0:Hid (DZ.all (·.oneCell')=true):=by rw [hDZ];show _=_;simp [dlZ,Value.oneCell']
 have HCP:=Lib.hid (cutPre_any T ⟨#[100,101,97,108,105,110,103,32]⟩ w1 (by omega) (by show 8≤_;omega))
 have HTZ:=Lib.hid hT
 clear hDZ hT
 go_enter Tryz.func152,Tryz.ntmps152
 go_wp2_with fail
 refine HCP.out.mono ?_
 rintro e w2 ⟨r,b,HR,hr,rfl,rfl⟩
 clear HCP hw1 hgR
 cases b with
 | false =>
  have HNO:Hid (∀ ep d,¬ IsDlg (bs T) ep d):=fun ep d h=>by
   obtain ⟨_,t,e,_⟩:=h
   rcases HR.out with ⟨h1,_⟩ | ⟨_,hn⟩
   · cases h1
   · exact hn _ e
  clear hr HR
  go_wp2_with (first | (refine wpList_buildTo rfl 132 #[] rfl _ rfl DZ (Eq.trans (congrArg (fun z=>Tryz.prog.built 132 z) (by kernel_rfl)) HB0.out) ?_) | (refine wpList_store_row rfl 132 _ _ rfl gR DZ rfl rfl _ _ s1.out HI0.out rfl HO0.out ?_))
  refine bodyPost_ret (results_tct rfl _ _ gR _ DZ _ _ rfl (setRow_heap _ _ _ _ _ _ s1.out) Tryz.underlying132 rfl HI0.out) rfl ?_
  rw [HDZ.out]
  exact dgNo HNO.out (u1.out.setRowNew HG.out _)
 | true =>
  have HSP:Hid (bs T=wDlg ++ bs r):=by
   rcases HR.out with ⟨_,h⟩ | ⟨h,_⟩
   · exact h
   · cases h
  have HRZ:Hid (r.size≤900000):=by have:=HTZ.out;show _≤_;omega
  have HCT:=Lib.hid (cutByte_any r 32 w2 (by have:=HRZ.out;omega) (htab.upd u1.out))
  clear hr HR
  go_wp2_with fail
  refine HCT.out.mono ?_
  rintro e w3 ⟨l,r2,q,HLL,HR2,HQ,hl,hr2,rfl,hq⟩
  have U3:=Lib.hid (u1.out.trans hq)
  have S3:=Lib.hid (row_updH s1.out hq)
  have HLZ:Hid (l.size≤1000000∧r2.size≤1000000):=by have:=HRZ.out;exact ⟨by omega,by omega⟩
  clear hq HCT hl hr2
  cases q with
  | false =>
   have HNO:Hid (∀ ep d,¬ IsDlg (bs T) ep d):=fun ep d h=>by
    obtain ⟨_,t,e,_⟩:=h
    rw [HSP.out] at e
    have e2:=HQ.out
    rw [List.append_cancel_left e,cut_hit 32 _ _ (itoa_no32 _)] at e2
    cases e2
   go_wp2_with (first | (refine wpList_buildTo rfl 132 #[] rfl _ rfl DZ (Eq.trans (congrArg (fun z=>Tryz.prog.built 132 z) (by kernel_rfl)) HB0.out) ?_) | (refine wpList_store_row rfl 132 _ _ rfl gR DZ rfl rfl _ _ S3.out HI0.out rfl HO0.out ?_))
   refine bodyPost_ret (results_tct rfl _ _ gR _ DZ _ _ rfl (setRow_heap _ _ _ _ _ _ S3.out) Tryz.underlying132 rfl HI0.out) rfl ?_
   rw [HDZ.out]
   exact dgNo HNO.out (U3.out.setRowNew HG.out _)
  | true =>
   have HCUT:Hid (Lib.cut (bs r) [32]=(bs l,bs r2,true)):=Prod.ext HLL.out.symm (Prod.ext HR2.out.symm HQ.out.symm)
   have HNM:=Lib.hid (cNumberG l w3 (by have:=HLZ.out;omega) (htab.upd U3.out))
   clear HLL HR2 HQ
   go_wp2_with fail
   refine HNM.out.mono ?_
   rintro e w4 ⟨ep,ok,HNK,hep,rfl,hq⟩
   have U4:=Lib.hid (U3.out.trans hq)
   have S4:=Lib.hid (row_updH S3.out hq)
   have HEP:=Lib.hid hep
   clear hq HNM hep
   cases ok with
   | false =>
    have HNO:Hid (∀ ep d,¬ IsDlg (bs T) ep d):=fun n d h=>by
     obtain ⟨hn,t,e,_⟩:=h
     rw [HSP.out] at e
     have e2:=HCUT.out
     rw [List.append_cancel_left e,cut_hit 32 _ _ (itoa_no32 _)] at e2
     injection e2 with e2 _
     exact HNK.out.2.2 rfl ⟨n,hn,e2.symm⟩
    go_wp2_with (first | (refine wpList_buildTo rfl 132 #[] rfl _ rfl DZ (Eq.trans (congrArg (fun z=>Tryz.prog.built 132 z) (by kernel_rfl)) HB0.out) ?_) | (refine wpList_store_row rfl 132 _ _ rfl gR DZ rfl rfl _ _ S4.out HI0.out rfl HO0.out ?_))
    refine bodyPost_ret (results_tct rfl _ _ gR _ DZ _ _ rfl (setRow_heap _ _ _ _ _ _ S4.out) Tryz.underlying132 rfl HI0.out) rfl ?_
    rw [HDZ.out]
    exact dgNo HNO.out (U4.out.setRowNew HG.out _)
   | true =>
    have HNB:Hid (bs l=Lib.itoa ep):=HNK.out.2.1 rfl
    have HDR:=Lib.hid (dealRead_any r2 HLZ.out.2 w4 (htab.upd U4.out))
    clear HNK
    go_wp2_with fail
    refine HDR.out.mono ?_
    rintro e w5 ⟨cv,bv,d,ok,HPR,HRI,HFT,rfl,hq⟩
    obtain ⟨DV,hDV⟩:∃ DV:Array Value,DV=#[cv,.int .i64 d.point,bv]:=⟨_,rfl⟩
    rw [← hDV]
    have HDV:=Lib.hid hDV
    have HIV:Hid ((Tryz.prog.info? 132).map (·.size)=some DV.size):=by rw [hDV];exact dlInfo _ _ _
    obtain ⟨a1,n1,k1,e1⟩:∃ a n k,cv=.slice a n k:=by obtain ⟨a,k,e,_⟩:=HRI.out.1;exact ⟨a,_,k,e⟩
    obtain ⟨a2,n2,k2,e2⟩:∃ a n k,bv=.slice a n k:=by obtain ⟨a,k,e,_⟩:=HRI.out.2;exact ⟨a,_,k,e⟩
    have HOV:Hid (DV.all (·.oneCell')=true):=by rw [hDV,e1,e2];show _=_;simp [Value.oneCell']
    have HZV:Hid ((#[.slice none 0 0,.int .i64 0,.slice none 0 0]:Array Value).size=DV.size):=by rw [hDV];rfl
    obtain ⟨w6,Z6,W6,R6,hq6⟩:=blk_new w5 132 #[.slice none 0 0,.int .i64 0,.slice none 0 0] DV
    obtain ⟨gX,hgX⟩:∃ g,w5.heap.size=g:=⟨_,rfl⟩
    rw [hgX] at Z6 W6 R6
    have U6:=Lib.hid ((U4.out.trans hq).trans hq6)
    have S6:=Lib.hid (row_updH (row_updH S4.out hq) hq6)
    have ud0:Upd [] [] w6 w6.drew:=(Upd.refl _ _).drew
    have RX:=Lib.hid (row_updH R6.out ud0)
    have RR:=Lib.hid (row_updH S6.out ud0)
    have HKU:=Lib.hid (U6.out.trans ud0)
    obtain ⟨wF,hwF⟩:∃ W,w6.drew.setRow gR DV=W:=⟨_,rfl⟩
    have RF:Hid (wF.heap[gR]? =some (.cells DV 132 (0,0))):=by show _=_;rw [← hwF];exact setRow_heap _ _ _ _ _ _ RR.out
    have RXF:Hid (wF.heap[gX]? =some (.cells DV 132 (0,0))):=by
     show _=_
     rw [← hwF]
     exact row_setRowO RX.out (by have:=blk_lt (row_updH S4.out hq);omega) _
    have UF:Hid (Upd [] [] w wF):=by show Upd _ _ _ _;rw [← hwF];exact HKU.out.setRowNew HG.out _
    have HDS:Hid (DZ.size=DV.size):=by show _=_;rw [HDZ.out,hDV];rfl
    have HRF:Hid (RdI wF cv d.coms∧RdS wF bv d.boxes):=by
     have hx:∀ x,x∈foot cv∨x∈foot bv→wF.heap[x]? =w6.drew.heap[x]?:=fun x hx=>by
      have h1:=HFT.out x hx
      have h2:=blk_lt S4.out
      rw [← hwF]
      unfold World.setRow
      rw [Array.getElem?_modify,if_neg (by omega)]
     exact ⟨((HRI.out.1.upd hq6).upd ud0).same (fun x h=>hx x (.inl h)),((HRI.out.2.upd hq6).upd ud0).same (fun x h=>hx x (.inr h))⟩
    have HWF:=Lib.hid hwF
    have HFIN:Hid ((ok=true∧IsDlg (bs T) ep d∧d.fit)∨(ok=false∧∀ ep d,¬ IsDlg (bs T) ep d)):=by
     have e0:bs r=Lib.itoa ep ++ 32 :: bs r2:=by rw [cut_back HCUT.out,HNB.out]
     rcases HPR.out with ⟨h,hp,hf⟩ | ⟨h,hp,_⟩
     · exact .inl ⟨h,⟨HEP.out,bs r2,by rw [HSP.out,e0],hp⟩,hf⟩
     · refine .inr ⟨h,fun n d' hd=>?_⟩
       obtain ⟨hn,t,e,ht⟩:=hd
       rw [HSP.out] at e
       have e2:=HCUT.out
       rw [List.append_cancel_left e,cut_hit 32 _ _ (itoa_no32 _)] at e2
       injection e2 with _ e2
       injection e2 with e2 _
       exact hp d' (e2 ▸ ht)
    clear hq hq6 HDR hDV hwF e1 e2 HPR HRI HFT
    go_upto_region 11 with (first | (refine wpList_store_rowAs rfl 132 _ _ rfl gX DV rfl rfl _ _ Z6.out HIV.out HZV.out HOV.out w6 W6.out ?_))
    refine wp_region_noPanic ?_
    refine wp_region_held_drew (S:=fun wp=>(Instr.loadAt 132 (.pointer (some ⟨gX,0,none⟩))).run Tryz.prog wp=.ok (.agg DV) wp) (by kernel_rfl) ?_ (fun hHeld=>?_)
    · exact dl_runs HIV.out RX.out
    refine tkY 0 hHeld ?_
    refine tkL 1 hHeld DV (fun w hSw=>hSw) ?_
    refine tkY 2 hHeld ?_
    refine tkY 3 hHeld ?_
    refine tk1 4 fun K hK=>?_
    rw [if_pos (by rfl)];refine wp_store_row 132 _ _ rfl gR DV rfl rfl _ _ RR.out HIV.out HDS.out HOV.out ?_;rw [HWF.out]
    refine tkK hK (dl_runs HIV.out RXF.out) fun hHeld=>?_
    clear hK K
    refine tkY 5 hHeld ?_
    refine wpAnyH_done (by kernel_rfl) ?_ _
    refine NoPanic.normal ?_
    go_wp2_with fail
    refine bodyPost_ret (results_tct rfl _ _ gR _ DV _ _ rfl RF.out Tryz.underlying132 rfl HIV.out) rfl ?_
    rw [HDV.out]
    exact ⟨ep,cv,bv,d,ok,HFIN,HRF,rfl,UF.out⟩
section
variable {M : Array Value} {aw ar as' bw br bs' low high id pub : Int} {aT bT F A B : ByteArray}
set_option maxHeartbeats 4000000 in
theorem formCheated_any (h:MtIs M aw aT ar as' bw bT br bs' low high F A B id pub) (ht:aT.size≤900000) (w:World) (htab:Tabs w) :
 Calls Tryz.prog 93 #[.agg M] w (MkPB2 (fun b=>b=true ↔ ∃ ep d,IsDlg (bs aT) ep d) w):=by
 obtain ⟨g,hg⟩:∃ g,w.heap.size=g:=⟨_,rfl⟩
 obtain ⟨w0,hw0⟩:∃ W,w.alloc (.cells M 106)=W:=⟨_,rfl⟩
 have r0:=Lib.hid (show w0.heap[g]? =some (.cells M 106 (0,0)) by rw [← hg,← hw0];exact heap_alloc_new _ _)
 have u0:=Lib.hid (show Upd [] [] w w0 by rw [← hw0];exact (Upd.refl _ _).alloc _)
 have c1:=(cell_of_row _ g 9 _ _ _ r0.out).trans h.a1
 have HP:=Lib.hid (dealing_any aT ht w0 (htab.upd u0.out))
 clear h
 go_enter Tryz.func93,Tryz.ntmps93
 go_wp2_with fail
 refine HP.out.mono ?_
 rintro e w1 ⟨ep,cv,bv,d,ok,HR,HRI,rfl,hq⟩
 obtain ⟨DV,hDV⟩:∃ DV:Array Value,DV=#[cv,.int .i64 d.point,bv]:=⟨_,rfl⟩
 rw [← hDV]
 have HIV:Hid ((Tryz.prog.info? 132).map (·.size)=some DV.size):=by rw [hDV];exact dlInfo _ _ _
 obtain ⟨a1,n1,k1,e1⟩:∃ a n k,cv=.slice a n k:=by obtain ⟨a,k,e,_⟩:=HRI.out.1;exact ⟨a,_,k,e⟩
 obtain ⟨a2,n2,k2,e2⟩:∃ a n k,bv=.slice a n k:=by obtain ⟨a,k,e,_⟩:=HRI.out.2;exact ⟨a,_,k,e⟩
 have HOV:Hid (DV.all (·.oneCell')=true):=by rw [hDV,e1,e2];show _=_;simp [Value.oneCell']
 have HZV:Hid ((#[.slice none 0 0,.int .i64 0,.slice none 0 0]:Array Value).size=DV.size):=by rw [hDV];rfl
 obtain ⟨w6,Z6,W6,R6,hq6⟩:=blk_new w1 132 #[.slice none 0 0,.int .i64 0,.slice none 0 0] DV
 obtain ⟨gX,hgX⟩:∃ g,w1.heap.size=g:=⟨_,rfl⟩
 rw [hgX] at Z6 W6 R6
 have U6:=Lib.hid ((u0.out.trans hq).trans hq6)
 clear hq hq6 HP c1 hDV e1 e2 R6
 go_wp2_with (first | (refine wpList_store_rowAs rfl 132 _ _ rfl gX DV rfl rfl _ _ Z6.out HIV.out HZV.out HOV.out w6 W6.out ?_))
 go_ret
 refine ⟨ok,?_,rfl,U6.out⟩
 show ok=true ↔ _
 rcases HR.out with ⟨h,hp,_⟩ | ⟨h,hn⟩
 · exact ⟨fun _=>⟨ep,d,hp⟩,fun _=>h⟩
 · exact ⟨(fun hk=>by rw [h] at hk;cases hk),fun ⟨n,d',hp⟩=>absurd hp (hn n d')⟩
set_option maxHeartbeats 4000000 in
theorem formFalse_any (h:MtIs M aw aT ar as' bw bT br bs' low high F A B id pub) (x y:Nat) (h1:i64in low) (h2:i64in high) (hF:bs F=be x) (hA:bs A=be y) (hx:x<9223372036854775808) (hy:y<9223372036854775808) (w:World) (htab:Tabs w) :
 Calls Tryz.prog 89 #[.agg M] w (MkPB2 (fun b=>b=true ↔ bs aT=claimGL low high x y) w):=by
 obtain ⟨g,hg⟩:∃ g,w.heap.size=g:=⟨_,rfl⟩
 obtain ⟨w0,hw0⟩:∃ W,w.alloc (.cells M 106)=W:=⟨_,rfl⟩
 have r0:w0.heap[g]? =some (.cells M 106 (0,0)):=by rw [← hg,← hw0];exact heap_alloc_new _ _
 have HU0:=Lib.hid (show Upd [] [] w w0 by rw [← hw0];exact (Upd.refl _ _).alloc _)
 have HK:Hid (∀ W,Upd [] [] w0 W→W.cell? ⟨g,9,none⟩=some (.string aT)∧(Instr.loadAt 42 (.pointer (some ⟨g,16,none⟩))).run Tryz.prog W=.ok (.agg (dspG low high F A B)) W):=by
  intro W u
  have q:=row_updH r0 u
  refine ⟨(cell_of_row _ g 9 _ _ _ q).trans h.a1,run_loadAt_mid W g 16 42 [.int .i64 low,.int .i64 high,.string F,.string A,.string B] _ (fun j v hv=>?_) Tryz.underlying42 rfl (by kernel_rfl)⟩
  match j,hv with
  | 0,hv=>simp at hv;subst hv;exact (cell_of_row _ g 16 _ _ _ q).trans h.d0
  | 1,hv=>simp at hv;subst hv;exact (cell_of_row _ g 17 _ _ _ q).trans h.d1
  | 2,hv=>simp at hv;subst hv;exact (cell_of_row _ g 18 _ _ _ q).trans h.d2
  | 3,hv=>simp at hv;subst hv;exact (cell_of_row _ g 19 _ _ _ q).trans h.d3
  | 4,hv=>simp at hv;subst hv;exact (cell_of_row _ g 20 _ _ _ q).trans h.d4
 have ud0:Upd [] [] w0 w0.drew:=(Upd.refl _ _).drew
 have HC:=Lib.hid (fun W (u:Upd [] [] w W)=>claimG low high F A B x y h1 h2 hF hA hx hy W (htab.upd u))
 clear h r0 hF hA
 go_enter Tryz.func89,Tryz.ntmps89
 go_upto_region 1 with (fail)
 refine wp_region_noPanic ?_
 refine wp_region_held_drew (S:=fun wp=>wp.cell? ⟨g,9,none⟩=some (.string aT)∧(Instr.loadAt 42 (.pointer (some ⟨g,16,none⟩))).run Tryz.prog wp=.ok (.agg (dspG low high F A B)) wp) (by kernel_rfl) ?_ (fun hHeld=>?_)
 · exact HK.out _ ud0
 refine tkY 0 hHeld ?_
 refine tkY 1 hHeld ?_
 refine tkY 2 hHeld ?_
 refine tkY 3 hHeld ?_
 refine tkY 4 hHeld ?_
 refine tkY 5 hHeld ?_
 refine wpAnyH_take (i:=6) (v:=.agg (dspG low high F A B)) (by simp only [List.getElem?_toArray,List.getElem?_cons_succ,List.getElem?_cons_zero] <;> rfl) (by kernel_rfl) (by kernel_rfl) (by kernel_rfl) (fun _ _ _ h=>h) (yieldsIf_loadW (by rfl) _ _ rfl _ rfl (dspG low high F A B) (fun w hSw=>hSw.2)) hHeld ?_
 try simp only [Act.put,List.setIfInBounds_toArray,List.set_cons_zero,List.set_cons_succ]
 refine tk1 7 fun K hK=>?_
 go_simp;refine (HC.out _ (HU0.out.trans ud0)).mono ?_;rintro e wv1 ⟨y1,HY,_,rfl,hq⟩;have ud1:=ud0.trans hq;clear hq;go_wp2_with fail
 refine tkK hK (HK.out _ ud1) fun hHeld=>?_
 clear hK K
 refine tkY 8 hHeld ?_
 refine tkY 9 hHeld ?_
 refine wpAnyH_done (by kernel_rfl) ?_ _
 refine NoPanic.normal ?_
 go_wp2_with fail
 go_ret
 refine ⟨_,?_,rfl,HU0.out.trans ud1⟩
 show (aT.toList == y1.toList)=true ↔ _
 rw [eq_beq,HY.out]
end
def GuF5 (l:List Int) (X:EvdG):Prop:=∃ k:Nat,k<manyN l∧X.who=((k+1:Nat):Int)∧X.aw=((k+1:Nat):Int)∧X.aT.size≤900000∧X.bT.size≤900000∧i64in X.br∧i64in X.bs'∧i64in X.low∧i64in X.high∧(∃ x y,bs X.F=be x∧bs X.A=be y∧x<9223372036854775808∧y<9223372036854775808)∧(X.kind=1∨X.kind=2∨X.kind=3∨X.kind=4∨X.kind=5)
theorem guPair_F {l:List Int} {kind at':Int} {ea eb:EvG} {X:EvdG} (h:GuPair l kind at' ea eb X) (ha:ea.ok) (hb:eb.ok) (za:ea.x.size≤1000) (zb:eb.x.size≤1000) (hk:kind=1∨kind=2∨kind=3∨kind=4∨kind=5):GuF5 l X:=by
 obtain ⟨k,F1,F2,T1,T2,hk',_,e1,e2,t1,t2,rfl⟩:=h
 have hi:i64in ((k+1:Nat):Int):=by have:=manyN_le l;unfold i64in;omega
 have o1:=EvG.signed_ok (ea.from_ok ha hi) (secN k)
 have o2:=EvG.signed_ok (eb.from_ok hb hi) (secN k)
 rw [← e1] at o1
 rw [← e2] at o2
 have z1:F1.x=ea.x:=by rw [e1];rfl
 have z2:F2.x=eb.x:=by rw [e2];rfl
 have l1:=EvG.text_len o1 (by rw [z1];omega)
 have l2:=EvG.text_len o2 (by rw [z2];omega)
 rw [← t1,bs_length,z1] at l1
 rw [← t2,bs_length,z2] at l2
 exact ⟨k,hk',rfl,by show F1.h=_;rw [e1];rfl,by show T1.size≤_;omega,by show T2.size≤_;omega,o2.2.2.2.2.2.2.1,o2.2.2.2.2.2.2.2,(by show i64in 0;unfold i64in;omega),(by show i64in 0;unfold i64in;omega),⟨0,0,be_zero.symm,be_zero.symm,by omega,by omega⟩,hk⟩
def MkGF (l:List Int) (w:World) (e:Ending) (w':World):Prop:=∃ X:EvdG,Hid (GuF5 l X)∧e=.returned (.agg X.V)∧Upd [] [] w w'
theorem em_ok {q:Int} (_h:i64in q) (m:Int) (hm:0<m) (hm2:m≤1000000):i64in (q % m):=by
 have:=Int.emod_nonneg q (by omega:m≠0)
 have:=Int.emod_lt_of_pos q hm
 unfold i64in
 omega
theorem guiltyF_any (l:List Int) (L K P KM S C KS:Value) (w:World) (hC:CaseRd l w L K P KM S C KS) (kind at' q0 q1 q2:Int) (hat:i64in at') (hq0:i64in q0) (hq1:i64in q1) (hq2:i64in q2) (hk:1≤kind∧kind≤5) :
 Calls Tryz.prog 6 #[.agg (csV L K P KM S C KS),.int .i64 kind,.int .i64 at',.agg #[.int .i64 q0,.int .i64 q1,.int .i64 q2]] w (MkGF l w):=by
 have a0:=em_ok hq0 50 (by omega) (by omega)
 have a1:i64in (1+q1 % 9):=by have:=Int.emod_nonneg q1 (by omega:(9:Int)≠0);have:=Int.emod_lt_of_pos q1 (by omega:(0:Int)<9);unfold i64in;omega
 have a2:i64in (q0 % 50+q2 % 3):=by have:=Int.emod_nonneg q0 (by omega:(50:Int)≠0);have:=Int.emod_lt_of_pos q0 (by omega:(0:Int)<50);have:=Int.emod_nonneg q2 (by omega:(3:Int)≠0);have:=Int.emod_lt_of_pos q2 (by omega:(0:Int)<3);unfold i64in;omega
 refine (guilty15_any kind (by omega) l L K P KM S C KS w hC at' q0 q1 q2 hat hq0 hq1 hq2).mono ?_
 rintro e w' ⟨X,HX,rfl,hu⟩
 refine ⟨X,?_,rfl,hu⟩
 rcases HX.out with ⟨_,h⟩ | ⟨_,h⟩ | ⟨_,h⟩ | ⟨_,h⟩ | ⟨_,h⟩
 · exact guPair_F h (evCs_ok _ a0 a1) (evCs_ok _ a0 a1) (by show 3≤_;omega) (by show 3≤_;omega) (.inl rfl)
 · obtain ⟨TX,k,y,_,_,_,_,hz,hp⟩:=h
   have h5:=evCs_ok TX a0 a1
   exact guPair_F hp ⟨h5.1,by show i64in 5;unfold i64in;omega,h5.2.2⟩ (evCs_ok _ a0 a1) (by show TX.size≤_;omega) (by show 3≤_;omega) (.inr (.inl rfl))
 · obtain ⟨k,fx,ax,ay,r,s,F,A,T,hk',_,hfx,hax,hay,hF,hA,hT,_,_,rfl⟩:=h
   have b0:=Int.emod_nonneg q0 (by omega:(100:Int)≠0)
   have b1:=Int.emod_lt_of_pos q0 (by omega:(0:Int)<100)
   have b2:=Int.emod_lt_of_pos q1 (by omega:(0:Int)<1000)
   have b3:=Int.emod_lt_of_pos q2 (by omega:(0:Int)<1000)
   have hay2:ay≤1000:=by rw [hay];split <;> omega
   have i1:i64in (q0 % 100):=by unfold i64in;omega
   have i2:i64in (q0 % 100+1):=by unfold i64in;omega
   have hl:=claimGL_len (x:=fx) (y:=ay) i1 i2 (by omega) (by omega)
   rw [← hT,bs_length] at hl
   exact ⟨k,hk',rfl,rfl,by show T.size≤_;omega,by show 0≤_;omega,(by show i64in 0;unfold i64in;omega),(by show i64in 0;unfold i64in;omega),i1,i2,⟨fx,ay,hF,hA,by omega,by omega⟩,.inr (.inr (.inl rfl))⟩
 · exact guPair_F h (evCs_ok _ a0 a1) (evCs_ok _ a2 a1) (by show 3≤_;omega) (by show 3≤_;omega) (.inr (.inr (.inr (.inl rfl))))
 · obtain ⟨k,hk',_,d,T,n,m,r,s,ck,c1,c2,hd,_,_,_,hT,_,_,_,_,_,_,rfl⟩:=h
   have i2:i64in (q2 % 8 / 7):=by
    have:=Int.emod_nonneg q2 (by omega:(8:Int)≠0)
    have:=Int.emod_lt_of_pos q2 (by omega:(0:Int)<8)
    unfold i64in
    omega
   have hl:=dealtL_len hd i2
   rw [← hT,bs_length] at hl
   exact ⟨k,hk',rfl,rfl,by show T.size≤_;omega,by show 0≤_;omega,(by show i64in 0;unfold i64in;omega),(by show i64in 0;unfold i64in;omega),(by show i64in 0;unfold i64in;omega),(by show i64in 0;unfold i64in;omega),⟨0,0,be_zero.symm,be_zero.symm,by omega,by omega⟩,.inr (.inr (.inr (.inr rfl)))⟩
def JgNo (w:World) (e:Ending) (w':World):Prop:=∃ y:Int,y≠0∧e=.returned (.tuple #[.int .i64 0,.int .i64 y])∧Upd [] [] w w'
theorem JgPost.no {who:Int} {w w':World} {e:Ending} (h:JgPost (fun _=>True) (·=false) (fun _=>True) who w e w'):JgNo w e w':=by
 obtain ⟨x,y,h,rfl,hu⟩:=h
 rcases h with ⟨_,rfl,rfl⟩ | ⟨_,_,rfl,rfl⟩ | ⟨_,h,_⟩ | ⟨_,h,_⟩
 · exact ⟨11,by omega,rfl,hu⟩
 · exact ⟨21,by omega,rfl,hu⟩
 · cases h
 · cases h
theorem crew_idx {ws:List Nat} {k x:Nat} (h:ws[k]? =some x):memIdx ((k+1:Nat):Int) (crewOf ws)=some k:=by
 refine memIdx_some (crewOf_get h) rfl (fun j hj y hy=>?_)
 obtain ⟨x',hx'⟩:∃ x,ws[j]? =some x:=⟨_,List.getElem?_eq_getElem (Nat.lt_trans hj (List.getElem?_eq_some_iff.1 h).1)⟩
 rw [crewOf_get hx'] at hy
 injection hy with hy
 rw [← hy]
 show ((j+1:Nat):Int)≠_
 omega
set_option maxHeartbeats 1000000 in
theorem judgeF_any (l:List Int) (L K P KM S C KS:Value) (w:World) (hC:CaseRd l w L K P KM S C KS) (X:EvdG) (r s:Int) (k:Nat) (hk:k<manyN l) (hw:X.who=((k+1:Nat):Int)) (haw:X.aw=((k+1:Nat):Int)) (ha:X.aT.size≤900000) (hb:X.bT.size≤900000) (hbr:i64in X.br) (hbs:i64in X.bs') (hlo:i64in X.low) (hhi:i64in X.high) (hFA:∃ x y,bs X.F=be x∧bs X.A=be y∧x<9223372036854775808∧y<9223372036854775808) (hkd:X.kind=1∨X.kind=2∨X.kind=3∨X.kind=4∨X.kind=5) (hr:i64in r) (hs:i64in s) (hv:verB (gP (secN k):Int) (bs X.aT) r s=false) (htab:Tabs w) :
 Calls Tryz.prog 10 #[.agg #[L,K,P,KM,.int .i64 4,.int .i64 0],.agg ({ X with ar:=r,as':=s }:EvdG).V] w (JgNo w):=by
 obtain ⟨ws,hws⟩:∃ ws,ws=wsN l (manyN l):=⟨_,rfl⟩
 have hlen:ws.length=manyN l:=by rw [hws];simp [wsN]
 obtain ⟨x,hx⟩:∃ x,ws[k]? =some x:=⟨_,List.getElem?_eq_getElem (by omega)⟩
 obtain ⟨ao,cap,eL,h1,h2,hM⟩:=hC.made.crew
 rw [← hws] at eL h1 hM
 obtain ⟨gM,eg,_⟩:=hM k _ (crewOf_get hx)
 subst eg
 obtain ⟨ca,cn,cc,eK⟩:∃ a n c,K=.slice a n c:=by obtain ⟨a,c,e,_⟩:=hC.made.coms;exact ⟨a,_,c,e⟩
 obtain ⟨pa,pn,pc,eP⟩:∃ a n c,P=.slice a n c:=by obtain ⟨a,c,e,_⟩:=hC.made.pts;exact ⟨a,_,c,e⟩
 obtain ⟨ka,kc,eM,_⟩:=hC.kmem
 have hn:=manyN_le l
 obtain ⟨kind,who,aw,aT,ar,as',bw,bT,br,bs',low,high,F,A,B,ci,ck,c1,c2⟩:=X
 simp only at hw haw ha hb hbr hbs hlo hhi hFA hkd hv
 obtain ⟨fx,ay,hF,hA,hfx,hay⟩:=hFA
 have hp:i64in (gP (secN k):Int):=by have:=gP_lt (secN k);unfold i64in;unfold Pn at this;omega
 have hmem:(crewOf ws)[k]? =some ⟨who,(x:Int),(gP (secN k):Int)⟩:=by rw [crewOf_get hx,hw];rfl
 have hidx:memIdx who (crewOf ws)=some k:=by rw [hw];exact crew_idx hx
 have hcl:(crewOf ws).length=ws.length:=by simp [crewOf]
 have hone:∀ (M:Array Value) (h:MtIs M aw aT r s bw bT br bs' low high F A B who (gP (secN k):Int)) (W:World),Upd [] [] w W→Calls Tryz.prog 82 #[.agg M] W (MkPB (·=false) W):=fun M h W u=>by
  refine (one_any h hp hr hs (by omega) W (htab.upd u)).mono ?_
  rintro e w' ⟨b,HB,rfl,hu⟩
  exact ⟨b,by show b=false;rw [HB.out,hv,Bool.and_false],rfl,hu⟩
 have hboth:∀ (M:Array Value) (h:MtIs M aw aT r s bw bT br bs' low high F A B who (gP (secN k):Int)) (W:World),Upd [] [] w W→Calls Tryz.prog 84 #[.agg M] W (MkPB (·=false) W):=fun M h W u=>by
  refine (both_any h hp hr hs (by omega) hbr hbs (by omega) W (htab.upd u)).mono ?_
  rintro e w' ⟨b,HB,rfl,hu⟩
  exact ⟨b,by show b=false;rw [HB.out,hv,Bool.and_false,Bool.false_and],rfl,hu⟩
 have htrue:∀ {f:FuncId} {args:Array Value} {Q:Bool→Prop} {W:World},Calls Tryz.prog f args W (MkPB2 Q W)→Calls Tryz.prog f args W (MkPB (fun _=>True) W):=fun h=>h.mono fun _ _ ⟨b,_,e,u⟩=>⟨b,trivial,e,u⟩
 subst eL eK eP eM
 have key:∀ (f1 f2 f3:Nat),crtF kind=some (crtV false f1 f2 f3)→(∀ (A:Array Value) (W:World),(callFunc f1 A).run Tryz.prog W=.ok (.enter f1 A) W)→(∀ (A:Array Value) (W:World),(callFunc f2 A).run Tryz.prog W=.ok (.enter f2 A) W)→(∀ (A:Array Value) (W:World),(callFunc f3 A).run Tryz.prog W=.ok (.enter f3 A) W) →
  (∀ (M:Array Value) (h:MtIs M aw aT r s bw bT br bs' low high F A B who (gP (secN k):Int)) (W:World),Upd [] [] w W→Calls Tryz.prog f1 #[.agg M] W (MkPB (fun _=>True) W)) →
  (∀ (M:Array Value) (h:MtIs M aw aT r s bw bT br bs' low high F A B who (gP (secN k):Int)) (W:World),Upd [] [] w W→Calls Tryz.prog f2 #[.agg M] W (MkPB (·=false) W)) →
  Calls Tryz.prog 10 #[.agg #[.slice (some ⟨gM,0,none⟩) ws.length cap,.slice ca cn cc,.slice pa pn pc,.slice ka 2 kc,.int .i64 4,.int .i64 0],.agg ({ kind:=kind,who:=who,aw:=aw,aT:=aT,ar:=r,as':=s,bw:=bw,bT:=bT,br:=br,bs':=bs',low:=low,high:=high,F:=F,A:=A,B:=B,ci:=ci,ck:=ck,c1:=c1,c2:=c2 }:EvdG).V] w (JgNo w):=fun f1 f2 f3 hcr b1 b2 b3 g1 g2 =>
  (judge_mem gM ws.length cap ca cn cc pa pn pc ka 2 kc 4 0 kind who aw aT r s bw bT br bs' low high F A B ci ck c1 c2 f1 f2 f3 hcr (by omega) (crewOf ws) hcl.symm h1 (by omega) k (x:Int) (gP (secN k):Int) hidx hmem (fun _=>True) (·=false) (fun _=>True) w hM b1 b2 b3
   (fun W u=>g1 _ (MtIs.ofG _ _ _ _ _ _ _ _ _ _ _ _ _ _ _ _ _ _ _ _ _ _ _ _ _ _ _ _ _ _ _ _ _ _ _ _ _) W u) (fun _ W u=>g2 _ (MtIs.ofG _ _ _ _ _ _ _ _ _ _ _ _ _ _ _ _ _ _ _ _ _ _ _ _ _ _ _ _ _ _ _ _ _ _ _ _ _) W u) (fun _ h=>by cases h)).mono fun _ _ h=>h.no
 rcases hkd with rfl | rfl | rfl | rfl | rfl
 · exact key 81 84 85 rfl (fun _ _=>by kernel_rfl) (fun _ _=>by kernel_rfl) (fun _ _=>by kernel_rfl) (fun M _ W _=>(pass_any (M:=M) W).mono fun _ _ h=>⟨true,trivial,h.1,h.2⟩) hboth
 · exact key 87 82 88 rfl (fun _ _=>by kernel_rfl) (fun _ _=>by kernel_rfl) (fun _ _=>by kernel_rfl) (fun M h W u=>htrue (formWrong_any h ha W (htab.upd u))) hone
 · exact key 89 82 90 rfl (fun _ _=>by kernel_rfl) (fun _ _=>by kernel_rfl) (fun _ _=>by kernel_rfl) (fun M h W u=>htrue (formFalse_any h fx ay hlo hhi hF hA hfx hay W (htab.upd u))) hone
 · exact key 91 84 92 rfl (fun _ _=>by kernel_rfl) (fun _ _=>by kernel_rfl) (fun _ _=>by kernel_rfl) (fun M h W u=>htrue (formTwo_any h ha hb W (htab.upd u))) hboth
 · exact key 93 82 94 rfl (fun _ _=>by kernel_rfl) (fun _ _=>by kernel_rfl) (fun _ _=>by kernel_rfl) (fun M h W u=>htrue (formCheated_any h ha W (htab.upd u))) hone
theorem rpow4_any (n:Nat) (w:World) (hn:n≤9223372036854775807) :
 Calls Tryz.prog 40 #[.int .i64 4,.int .i64 (n:Int),.int .i64 2305843009213691579] w (fun e w'=>∃ r:Nat,Hid (r=4 ^ n % Pn)∧r<2305843009213691579∧e=.returned (.int .i64 (r:Int))∧w=w'):=rPow_n 4 n _ w (by omega) hn rfl
set_option maxHeartbeats 2000000 in
theorem rverify5_any (p:Int) (t:ByteArray) (r s:Int) (w:World) (hp0:-9223372036854775808≤p∧p≤9223372036854775807) (hr0:-9223372036854775808≤r∧r≤9223372036854775807) (hs:-9223372036854775808≤s∧s≤9223372036854775807) (ht:t.size≤140737488355000) :
 Calls Tryz.prog 9 #[.int .i64 p,.string t,.agg #[.int .i64 r,.int .i64 s]] w (MkB (verB p (bs t) r s) w):=by
 have hp:i64in p:=hp0
 have hr:i64in r:=hr0
 clear hp0 hr0
 have h0:=SigAt.start w r s
 obtain ⟨a,ha⟩:∃ a,memB p=a:=⟨_,rfl⟩
 obtain ⟨b,hb⟩:∃ b,memB r=b:=⟨_,rfl⟩
 have HA:=Lib.hid ha
 have HB:=Lib.hid hb
 by_cases hab:a=true∧b=true
 case neg =>
  have HV:Hid (verB p (bs t) r s=false):=by
   show _=_
   cases a <;> cases b <;> simp_all [verB]
  have hab2:a=false∨(a=true∧b=false):=by cases a <;> cases b <;> simp_all
  clear ha hb hab
  obtain ⟨k0,k1⟩:=h0.cells
  rcases hab2 with rfl | ⟨rfl,rfl⟩
  all_goals
   go_enter Tryz.func9,Tryz.ntmps9
   go_wp2_with fail
   refine (rmember_is p _ _ hp HA.out).mono ?_
   rintro e w1 ⟨rfl,rfl⟩
   go_wp2_with fail
   refine (rmember_is r _ _ hr HB.out).mono ?_
   rintro e w1 ⟨rfl,rfl⟩
   go_wp2_with fail
   go_ret
   exact ⟨_,HV.out.symm,rfl,h0.up⟩
 case pos =>
  obtain ⟨rfl,rfl⟩:=hab
  obtain ⟨P,rfl,hP⟩:=memB_pos ha
  obtain ⟨R,rfl,hR⟩:=memB_pos hb
  have hP2:P<2305843009213691579:=hP.2.1
  have hR2:R<2305843009213691579:=hR.2.1
  clear ha hb hP hR
  obtain ⟨k0,k1⟩:=h0.cells
  by_cases hs0:s<0
  · have HV:Hid (verB (P:Int) (bs t) (R:Int) s=false):=by
     show _=_
     have:decide (0≤s)=false:=by rw [decide_eq_false_iff_not];omega
     simp [verB,this]
    go_enter Tryz.func9,Tryz.ntmps9
    go_wp2_with fail
    refine (rmember_is P _ _ hp HA.out).mono ?_
    rintro e w1 ⟨rfl,rfl⟩
    go_wp2_with fail
    refine (rmember_is R _ _ hr HB.out).mono ?_
    rintro e w1 ⟨rfl,rfl⟩
    go_wp2_with fail
    go_ret
    exact ⟨_,HV.out.symm,rfl,h0.up⟩
  by_cases hs1:1152921504606845789≤s
  · have HV:Hid (verB (P:Int) (bs t) (R:Int) s=false):=by
     show _=_
     have:decide (s<1152921504606845789)=false:=by rw [decide_eq_false_iff_not];omega
     simp [verB,this]
    go_enter Tryz.func9,Tryz.ntmps9
    go_wp2_with fail
    refine (rmember_is P _ _ hp HA.out).mono ?_
    rintro e w1 ⟨rfl,rfl⟩
    go_wp2_with fail
    refine (rmember_is R _ _ hr HB.out).mono ?_
    rintro e w1 ⟨rfl,rfl⟩
    go_wp2_with fail
    go_ret
    exact ⟨_,HV.out.symm,rfl,h0.up⟩
  go_enter Tryz.func9,Tryz.ntmps9
  go_wp2_with fail
  refine (rmember_is P _ _ hp HA.out).mono ?_
  rintro e w1 ⟨rfl,rfl⟩
  go_wp2_with fail
  refine (rmember_is R _ _ hr HB.out).mono ?_
  rintro e w1 ⟨rfl,rfl⟩
  go_wp2_with fail
  obtain ⟨T,rfl⟩:∃ T:Nat,s=(T:Int):=⟨s.toNat,by omega⟩
  have HS1:=Lib.hid hs1
  have HSS:=Lib.hid hs
  clear hs hs1 hs0
  refine (rchallenge_any R P t _ (by omega) (by omega) ht).mono ?_
  rintro e w3 ⟨c,HC,hc,rfl,hu3⟩
  have h4:=(h0.upd hu3).upd (Upd.refl _ _).drew
  have k4:=h4.cells
  have hTb:T≤9223372036854775807:=by have:=HSS.out.2;omega
  clear h0 k0 k1
  go_wp2_with fail
  go_region_held3 (fun wp=>wp.cell? ⟨w.heap.size,0,none⟩=some (.int .i64 (R:Int))∧wp.cell? ⟨w.heap.size,1,none⟩=some (.int .i64 (T:Int))) (first | exact k4 | assumption)
   (first
    | (go_at_call 40;((with_reducible refine (rpow4_any T _ hTb).mono ?_);rintro e wq ⟨y1,HY1,hy1,rfl,rfl⟩))
    | (go_at_call 40;((with_reducible refine (rPow_n P c _ _ (by omega) (by omega) rfl).mono ?_);rintro e wq ⟨y2,HY2,hy2,rfl,rfl⟩))
    | (go_at_call 41;((with_reducible refine (rMulP_n R y2 _ (by omega) (by omega)).mono ?_);rintro e wq ⟨y3,HY3,hy3,rfl,rfl⟩)))
  go_wp2_with fail
  go_ret
  refine ⟨_,?_,rfl,h4.up⟩
  show _=_
  have e1:y1=gP T:=HY1.out
  have e3:y3=R * P ^ chalN R P (bs t) % Pn:=by rw [HY3.out,HY2.out,HC.out,Nat.mul_mod_mod]
  have mP:memN P:=(memB_cast P).1 HA.out
  have mR:memN R:=(memB_cast R).1 HB.out
  have hT:T<Qn:=by
   have:Qn=1152921504606845789:=rfl
   have:=HS1.out
   omega
  show ((y1:Int) == (y3:Int))=_
  rw [Bool.eq_iff_iff,verB_cast,beq_iff_eq,← e1,← e3]
  exact ⟨fun h=>⟨mP,mR,hT,by omega⟩,fun h=>by have:=h.2.2.2;omega⟩
theorem rverify5_is (p:Int) (t:ByteArray) (r s:Int) (b:Bool) (w:World) (hp:i64in p) (hr:i64in r) (hs:i64in s) (ht:t.size≤140737488355000) (h:verB p (bs t) r s=b) :
 Calls Tryz.prog 9 #[.int .i64 p,.string t,.agg #[.int .i64 r,.int .i64 s]] w (fun e w'=>e=.returned (.bool b)∧Upd [] [] w w'):=by
 refine (rverify5_any p t r s w hp hr hs ht).mono ?_
 rintro e w' ⟨x,HX,rfl,hu⟩
 exact ⟨by rw [HX.out,h],hu⟩
def jW (g p:Bool) (who:Int):Int:=if g && p then who else 0
def jE (g p:Bool):Int:=if g then (if p then 0 else 25) else 21
theorem evdInfo (kind who aw:Int) (aT:ByteArray) (ar as' bw:Int) (bT:ByteArray) (br bs' low high:Int) (F A B:ByteArray):(Tryz.prog.info? 48).map (·.size)=some (evdL kind who aw aT ar as' bw bT br bs' low high F A B).length:=by
 show _=some 19
 kernel_rfl
theorem evd_load {kind who aw:Int} {aT:ByteArray} {ar as' bw:Int} {bT:ByteArray} {br bs' low high:Int} {F A B:ByteArray} {g:Nat} {W:World} (h:W.heap[g]? =some (.cells (evdL kind who aw aT ar as' bw bT br bs' low high F A B).toArray 48 (0,0))) :
 (Instr.loadAt 48 (.pointer (some ⟨g,0,none⟩))).run Tryz.prog W=.ok (.agg (evdL kind who aw aT ar as' bw bT br bs' low high F A B).toArray) W :=
 run_loadAt_mid W g 0 48 _ _ (row_range rfl h) Tryz.underlying48 rfl (evdInfo _ _ _ _ _ _ _ _ _ _ _ _ _ _ _)
theorem JgPost.is {g p:Bool} {who:Int} {w w':World} {e:Ending} (h:JgPost (·=true) (·=g) (·=p) who w e w'):Mk (.tuple #[.int .i64 (jW g p who),.int .i64 (jE g p)]) w e w':=by
 obtain ⟨x,y,h,rfl,hu⟩:=h
 refine ⟨?_,hu⟩
 rcases h with ⟨h,_⟩ | ⟨_,rfl,rfl,rfl⟩ | ⟨_,rfl,rfl,rfl,rfl⟩ | ⟨_,rfl,rfl,rfl,rfl⟩
 · cases h
 · rfl
 · rfl
 · rfl
theorem mb_one {w:World} {g:Nat} {id wt pub:Int} (h:w.heap[g]? =some (.cells (mbrV id wt pub) 52 (0,0))):MbsIn w (some ⟨g,0,none⟩) [⟨id,wt,pub⟩]:=by
 intro k m hk
 match k,hk with
 | 0,hk =>
  simp at hk
  subst hk
  exact ⟨g,rfl,blk_lt h,cell_of_row _ g 0 _ _ _ h,cell_of_row _ g 1 _ _ _ h,cell_of_row _ g 2 _ _ _ h⟩
theorem mk_pb {f:FuncId} {args:Array Value} {q:Bool} {w:World} (h:Calls Tryz.prog f args w (Mk (.bool q) w)):Calls Tryz.prog f args w (MkPB (·=q) w):=h.mono fun _ _ h=>⟨q,rfl,h.1,h.2⟩
theorem judge_double (gM:Nat) (who aw:Int) (aT:ByteArray) (ar as' bw:Int) (bT:ByteArray) (br bs' low high:Int) (F A B:ByteArray) (wt pub:Int) (g p:Bool) (w:World) (hM:w.heap[gM]? =some (.cells (mbrV who wt pub) 52 (0,0)))
 (hF:∀ W,Upd [] [] w W→Calls Tryz.prog 81 #[.agg (mtL (.slice (some ⟨gM,0,none⟩) 1 1) (.slice none 0 0) (.slice none 0 0) (.slice none 0 0) 1 who aw aT ar as' bw bT br bs' low high F A B who wt pub).toArray] W (Mk (.bool true) W))
 (hG:∀ W,Upd [] [] w W→Calls Tryz.prog 84 #[.agg (mtL (.slice (some ⟨gM,0,none⟩) 1 1) (.slice none 0 0) (.slice none 0 0) (.slice none 0 0) 1 who aw aT ar as' bw bT br bs' low high F A B who wt pub).toArray] W (Mk (.bool g) W))
 (hP:∀ W,Upd [] [] w W→Calls Tryz.prog 85 #[.agg (mtL (.slice (some ⟨gM,0,none⟩) 1 1) (.slice none 0 0) (.slice none 0 0) (.slice none 0 0) 1 who aw aT ar as' bw bT br bs' low high F A B who wt pub).toArray] W (Mk (.bool p) W)) :
 Calls Tryz.prog 10 #[.agg (supV gM),.agg (evdL 1 who aw aT ar as' bw bT br bs' low high F A B).toArray] w (Mk (.tuple #[.int .i64 (jW g p who),.int .i64 (jE g p)]) w) :=
 (judge_mem gM 1 1 none 0 0 none 0 0 none 0 0 0 0 1 who aw aT ar as' bw bT br bs' low high F A B 0 0 0 0 81 84 85 rfl (by omega) [⟨who,wt,pub⟩] rfl (Nat.le_refl _) (by omega) 0 wt pub (by simp [memIdx]) rfl (·=true) (·=g) (·=p) w (mb_one hM) (fun _ _=>by kernel_rfl) (fun _ _=>by kernel_rfl) (fun _ _=>by kernel_rfl)
  (fun W u=>mk_pb (hF W u)) (fun _ W u=>mk_pb (hG W u)) (fun _ _ W u=>mk_pb (hP W u))).mono fun _ _ h=>h.is
theorem judge_falseEnd (gM:Nat) (who aw:Int) (aT:ByteArray) (ar as' bw:Int) (bT:ByteArray) (br bs' low high:Int) (F A B:ByteArray) (wt pub:Int) (g p:Bool) (w:World) (hM:w.heap[gM]? =some (.cells (mbrV who wt pub) 52 (0,0)))
 (hF:∀ W,Upd [] [] w W→Calls Tryz.prog 89 #[.agg (mtL (.slice (some ⟨gM,0,none⟩) 1 1) (.slice none 0 0) (.slice none 0 0) (.slice none 0 0) 3 who aw aT ar as' bw bT br bs' low high F A B who wt pub).toArray] W (Mk (.bool true) W))
 (hG:∀ W,Upd [] [] w W→Calls Tryz.prog 82 #[.agg (mtL (.slice (some ⟨gM,0,none⟩) 1 1) (.slice none 0 0) (.slice none 0 0) (.slice none 0 0) 3 who aw aT ar as' bw bT br bs' low high F A B who wt pub).toArray] W (Mk (.bool g) W))
 (hP:∀ W,Upd [] [] w W→Calls Tryz.prog 90 #[.agg (mtL (.slice (some ⟨gM,0,none⟩) 1 1) (.slice none 0 0) (.slice none 0 0) (.slice none 0 0) 3 who aw aT ar as' bw bT br bs' low high F A B who wt pub).toArray] W (Mk (.bool p) W)) :
 Calls Tryz.prog 10 #[.agg (supV gM),.agg (evdL 3 who aw aT ar as' bw bT br bs' low high F A B).toArray] w (Mk (.tuple #[.int .i64 (jW g p who),.int .i64 (jE g p)]) w) :=
 (judge_mem gM 1 1 none 0 0 none 0 0 none 0 0 0 0 3 who aw aT ar as' bw bT br bs' low high F A B 0 0 0 0 89 82 90 rfl (by omega) [⟨who,wt,pub⟩] rfl (Nat.le_refl _) (by omega) 0 wt pub (by simp [memIdx]) rfl (·=true) (·=g) (·=p) w (mb_one hM) (fun _ _=>by kernel_rfl) (fun _ _=>by kernel_rfl) (fun _ _=>by kernel_rfl)
  (fun W u=>mk_pb (hF W u)) (fun _ W u=>mk_pb (hG W u)) (fun _ _ W u=>mk_pb (hP W u))).mono fun _ _ h=>h.is
set_option maxHeartbeats 8000000 in
theorem judge_odd (SV EV:Array Value) (hE:EV[0]? =some (.int .i64 9)) (w:World):Calls Tryz.prog 10 #[.agg SV,.agg EV] w (Mk (.tuple #[.int .i64 0,.int .i64 14]) w):=by
 obtain ⟨gS,hgS⟩:∃ g,w.heap.size=g:=⟨_,rfl⟩
 obtain ⟨w0,hw0⟩:∃ W,w.alloc (.cells SV 30)=W:=⟨_,rfl⟩
 have u0:Upd [] [] w w0:=by rw [← hw0];exact (Upd.refl _ _).alloc _
 obtain ⟨gE,hgE⟩:∃ g,w0.heap.size=g:=⟨_,rfl⟩
 obtain ⟨w1,hw1⟩:∃ W,w0.alloc (.cells EV 48)=W:=⟨_,rfl⟩
 have r1:w1.heap[gE]? =some (.cells EV 48 (0,0)):=by rw [← hgE,← hw1];exact heap_alloc_new _ _
 have u1:Upd [] [] w0 w1:=by rw [← hw1];exact (Upd.refl _ _).alloc _
 have U1:=Lib.hid (u0.trans u1)
 have ud0:Upd [] [] w1 w1.drew:=(Upd.refl _ _).drew
 have HK:Hid (∀ W,Upd [] [] w1 W→W.cell? ⟨gE,0,none⟩=some (.int .i64 9)):=fun W u=>(cell_of_row _ gE 0 _ _ _ (row_updH r1 u)).trans hE
 have HCI:Hid ((Tryz.prog.info? 99).map (·.size)=some (#[.bool false,.nilFunc,.nilFunc,.nilFunc]:Array Value).size):=by show _=some 4;kernel_rfl
 clear u0 r1 u1 hE
 go_enter Tryz.func10,Tryz.ntmps10
 go_upto_region 1 with (fail)
 refine @_root_.id ((∀ (bM gC:Nat) (W:World),Hid (Upd [] [] w1 W)→(?pj1:Nat→Nat→World→Prop) bM gC W)→_) (fun hJ=>?mj1) ?jj1
 case mj1 =>
  refine wp_region_noPanic ?_
  refine wp_region_held_drew (S:=fun wp=>wp.cell? ⟨gE,0,none⟩=some (.int .i64 9)) (by kernel_rfl) ?_ (fun hHeld=>?_)
  · exact HK.out _ ud0
  refine tkY 1 hHeld ?_
  refine tkY 2 hHeld ?_
  refine tkA [0,7] ?_
  refine tkC (fun K hK=>?_) ?_
  · go_simp;refine (courts_any _).mono ?_;rintro e wv1 ⟨bM,rfl,HMF,hq⟩;have ud1:=ud0.trans hq;clear hq;have HM_1:=HMF;clear HMF;go_wp2_with fail
    refine tkK hK (HK.out _ ud1) fun hHeld=>?_
    clear hK K
    refine tkA [3,7] ?_
    refine tkC (fun K hK=>?_) ?_
    · have hlk:=(HM_1.out.look_ok (x:=9) undC (zeroC wv1) (by omega)).trans (congrArg (fun z=>Result.ok z wv1) (show _=Value.tuple #[.agg #[.bool false,.nilFunc,.nilFunc,.nilFunc],.bool false] from rfl));go_wp2_with fail;clear hlk HM_1
      refine tkK hK (HK.out _ ud1) fun hHeld=>?_
      clear hK K
      refine tkY 4 hHeld ?_
      refine tkY 5 hHeld ?_
      refine tkY 6 hHeld ?_
      refine tk1 7 fun K hK=>?_
      go_simp;obtain ⟨gC,wv2,hgx,hwx,fC_2,hq⟩:=alloc_let wv1 (.cells #[.bool false,.nilFunc,.nilFunc,.nilFunc] 99);rw [← hgx,← hwx];have bC:w1.heap.size≤gC:=(by have:=ud1.size;omega);have ud2:=ud1.trans hq;clear hgx hwx hq
      refine tkK hK (HK.out _ ud2) fun hHeld=>?_
      clear hK K
      refine tk1 8 fun K hK=>?_
      rw [if_pos (by rfl)];refine wp_store_row 99 _ _ rfl gC #[.bool false,.nilFunc,.nilFunc,.nilFunc] rfl rfl _ _ fC_2.out HCI.out rfl (by simp [Value.oneCell']) ?_;obtain ⟨wv3,hwx⟩:∃ W':World,W'=wv2.setRow gC #[.bool false,.nilFunc,.nilFunc,.nilFunc]:=⟨_,rfl⟩;have ud3:=ud2.setRowNew bC #[.bool false,.nilFunc,.nilFunc,.nilFunc];rw [← hwx] at ud3 ⊢;clear hwx
      refine tkK hK (HK.out _ ud3) fun hHeld=>?_
      clear hK K
      refine tkY 9 hHeld ?_
      refine wpAnyH_done (by kernel_rfl) ?_ _
      refine NoPanic.normal ?_
      exact hJ bM gC wv3 (Lib.hid ud3)
    refine tkZ fun K hK=>?_
    go_simp;obtain ⟨gC,wv2,hgx,hwx,fC_2,hq⟩:=alloc_let wv1 (.cells #[.bool false,.nilFunc,.nilFunc,.nilFunc] 99);rw [← hgx,← hwx];have bC:w1.heap.size≤gC:=(by have:=ud1.size;omega);have ud2:=ud1.trans hq;have HM_2:=Lib.hid (HM_1.out.upd hq (by simp));clear HM_1;clear hgx hwx hq
    refine tkK hK (HK.out _ ud2) fun hHeld=>?_
    clear hK K
    refine tk1 3 fun K hK=>?_
    have hlk:=(HM_2.out.look_ok (x:=9) undC (zeroC wv2) (by omega)).trans (congrArg (fun z=>Result.ok z wv2) (show _=Value.tuple #[.agg #[.bool false,.nilFunc,.nilFunc,.nilFunc],.bool false] from rfl));go_wp2_with fail;clear hlk HM_2
    refine tkK hK (HK.out _ ud2) fun hHeld=>?_
    clear hK K
    refine tkY 4 hHeld ?_
    refine tkY 5 hHeld ?_
    refine tkY 6 hHeld ?_
    refine tk1 8 fun K hK=>?_
    rw [if_pos (by rfl)];refine wp_store_row 99 _ _ rfl gC #[.bool false,.nilFunc,.nilFunc,.nilFunc] rfl rfl _ _ fC_2.out HCI.out rfl (by simp [Value.oneCell']) ?_;obtain ⟨wv3,hwx⟩:∃ W':World,W'=wv2.setRow gC #[.bool false,.nilFunc,.nilFunc,.nilFunc]:=⟨_,rfl⟩;have ud3:=ud2.setRowNew bC #[.bool false,.nilFunc,.nilFunc,.nilFunc];rw [← hwx] at ud3 ⊢;clear hwx
    refine tkK hK (HK.out _ ud3) fun hHeld=>?_
    clear hK K
    refine tkY 9 hHeld ?_
    refine wpAnyH_done (by kernel_rfl) ?_ _
    refine NoPanic.normal ?_
    exact hJ bM gC wv3 (Lib.hid ud3)
  refine tkZ fun K hK=>?_
  go_simp;obtain ⟨gC,wv1,hgx,hwx,fC_1,hq⟩:=alloc_letD w1 (.cells #[.bool false,.nilFunc,.nilFunc,.nilFunc] 99);rw [← hgx,← hwx];have bC:w1.heap.size≤gC:=(by omega);have ud1:=hq;clear hgx hwx hq
  refine tkK hK (HK.out _ ud1) fun hHeld=>?_
  clear hK K
  refine tk1 0 fun K hK=>?_
  go_simp;refine (courts_any _).mono ?_;rintro e wv2 ⟨bM,rfl,HMF,hq⟩;have ud2:=ud1.trans hq;have fC_2:=Lib.hid (row_updH fC_1.out hq);clear hq;have HM_2:=HMF;clear HMF;go_wp2_with fail
  refine tkK hK (HK.out _ ud2) fun hHeld=>?_
  clear hK K
  refine tk1 3 fun K hK=>?_
  have hlk:=(HM_2.out.look_ok (x:=9) undC (zeroC wv2) (by omega)).trans (congrArg (fun z=>Result.ok z wv2) (show _=Value.tuple #[.agg #[.bool false,.nilFunc,.nilFunc,.nilFunc],.bool false] from rfl));go_wp2_with fail;clear hlk HM_2
  refine tkK hK (HK.out _ ud2) fun hHeld=>?_
  clear hK K
  refine tkY 4 hHeld ?_
  refine tkY 5 hHeld ?_
  refine tkY 6 hHeld ?_
  refine tk1 8 fun K hK=>?_
  rw [if_pos (by rfl)];refine wp_store_row 99 _ _ rfl gC #[.bool false,.nilFunc,.nilFunc,.nilFunc] rfl rfl _ _ fC_2.out HCI.out rfl (by simp [Value.oneCell']) ?_;obtain ⟨wv3,hwx⟩:∃ W':World,W'=wv2.setRow gC #[.bool false,.nilFunc,.nilFunc,.nilFunc]:=⟨_,rfl⟩;have ud3:=ud2.setRowNew bC #[.bool false,.nilFunc,.nilFunc,.nilFunc];rw [← hwx] at ud3 ⊢;clear hwx
  refine tkK hK (HK.out _ ud3) fun hHeld=>?_
  clear hK K
  refine tkY 9 hHeld ?_
  refine wpAnyH_done (by kernel_rfl) ?_ _
  refine NoPanic.normal ?_
  exact hJ bM gC wv3 (Lib.hid ud3)
 intro bM gC w3 U3
 skip
 go_wp2_with fail
 go_ret2
 exact ⟨rfl,U1.out.trans U3.out⟩
end Go.Proofs.YtmjlkkbbnkanpaaGreatDoor
