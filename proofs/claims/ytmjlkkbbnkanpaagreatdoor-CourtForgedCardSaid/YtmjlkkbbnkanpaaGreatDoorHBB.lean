/- The text of a dealing, plainly and what follows. -/
import Derived.Test.YtmjlkkbbnkanpaaGreatDoorHAO
import Derived.Test.YtmjlkkbbnkanpaaGreatDoorHBA
import Derived.Test.YtmjlkkbbnkanpaaGreatDoorHAT
import Derived.Test.YtmjlkkbbnkanpaaGreatDoorHAW
import Derived.Test.YtmjlkkbbnkanpaaGreatDoorHAA
import Derived.Test.YtmjlkkbbnkanpaaGreatDoorHAQ
import Derived.Test.YtmjlkkbbnkanpaaGreatDoorRows
import Derived.Laws.IdiomStrings
import Derived.Test.YtmjlkkbbnkanpaaGreatDoorHAY
import Derived.Test.YtmjlkkbbnkanpaaGreatDoorHAX
namespace Go.Proofs.YtmjlkkbbnkanpaaGreatDoor
open Go.RowKit
set_option maxRecDepth 100000
structure DlI where
 coms:List Int
 point:Int
 boxes:List (List UInt8)
def wDeal:List UInt8:=[100,101,97,108]
def DlI.ok (d:DlI):Prop:=(∀ c∈d.coms,i64in c)∧i64in d.point∧d.coms.length≤1000000000
def DlI.words (d:DlI):List (List UInt8):=wDeal :: Lib.itoa (d.coms.length:Int) :: (d.coms.map Lib.itoa ++ Lib.itoa d.point :: d.boxes.map hexL)
def DlI.text (d:DlI):List UInt8:=Lib.join d.words [32]
def IsDl (l:List UInt8) (d:DlI):Prop:=d.ok∧l=d.text
theorem DlI.no32 (d:DlI):∀ x∈d.words,(32:UInt8) ∉ x:=by
 intro x hx
 simp only [DlI.words,List.mem_cons,List.mem_append,List.mem_map] at hx
 rcases hx with rfl | rfl | ⟨c,_,rfl⟩ | rfl | ⟨b,_,rfl⟩
 · decide
 · exact itoa_no32 _
 · exact itoa_no32 _
 · exact itoa_no32 _
 · exact hexL_no32 b
theorem IsDl.words {l:List UInt8} {d:DlI} (h:IsDl l d) {W:List (List UInt8)} (hW:IsWords l W):W=d.words :=
 words_uniq _ _ l hW ⟨d.no32,by simp [DlI.words],h.2.symm⟩
def dlTail (xs:List (List UInt8)):List UInt8:=xs.flatMap fun x=>32 :: x
theorem join_tail:∀ (x:List UInt8) (xs:List (List UInt8)),Lib.join (x :: xs) [32]=x ++ dlTail xs
 | x,[]=>by rw [Lib.join_one];simp [dlTail]
 | x,y :: r=>by
  rw [join_two,join_tail y r]
  simp [dlTail]
theorem DlI.text_eq (d:DlI):d.text=wDeal ++ dlTail (Lib.itoa (d.coms.length:Int) :: (d.coms.map Lib.itoa ++ Lib.itoa d.point :: d.boxes.map hexL)):=join_tail _ _
def Dl.I (d:Dl):DlI:=⟨d.coms.map (fun (x:Nat)=>(x:Int)),(d.point:Int),d.boxes⟩
def DlFit (d:Dl):Prop:=(∀ x∈d.coms,x<9223372036854775808)∧d.point<9223372036854775808∧d.coms.length≤100∧d.boxes.length≤100∧∀ b∈d.boxes,b.length≤100
def dtA (d:Dl) (k:Nat):List UInt8:=wDeal ++ dlTail (Lib.itoa (d.coms.length:Int) :: (d.coms.take k).map fun (x:Nat)=>Lib.itoa (x:Int))
def dtB (d:Dl) (k:Nat):List UInt8:=dtA d d.coms.length ++ dlTail (Lib.itoa (d.point:Int) :: (d.boxes.take k).map hexL)
theorem dtA_succ {d:Dl} {k:Nat} {x:Nat} (h:d.coms[k]? =some x):dtA d (k+1)=dtA d k ++ 32 :: Lib.itoa (x:Int):=by
 unfold dtA
 rw [List.take_add_one,h]
 simp [dlTail]
theorem dtB_succ {d:Dl} {k:Nat} {x:List UInt8} (h:d.boxes[k]? =some x):dtB d (k+1)=dtB d k ++ 32 :: hexL x:=by
 unfold dtB
 rw [List.take_add_one,h]
 simp [dlTail]
theorem dtB_all (d:Dl):dtB d d.boxes.length=d.I.text:=by
 rw [DlI.text_eq]
 unfold dtB dtA
 rw [List.take_length,List.take_length]
 simp [Dl.I,dlTail,Function.comp_def]
theorem flat_len {α:Type} (f:α→List UInt8) (m:Nat):∀ l:List α,(∀ x∈l,(f x).length≤m)→(dlTail (l.map f)).length≤(m+1) * l.length
 | [],_=>by simp [dlTail]
 | x :: r,h=>by
  have h1:=flat_len f m r (fun y hy=>h y (by simp [hy]))
  have h2:=h x (by simp)
  have e:dlTail ((x :: r).map f)=32 :: (f x ++ dlTail (r.map f)):=by simp [dlTail]
  rw [e,List.length_cons,List.length_append,List.length_cons,Nat.mul_add]
  omega
theorem dtA_len {d:Dl} (h:DlFit d) {k:Nat} (hk:k≤d.coms.length):(dtA d k).length≤3000:=by
 have h1:=flat_len (fun (x:Nat)=>Lib.itoa (x:Int)) 20 (d.coms.take k) (fun x hx=>itoa_len _ (by have:=h.1 x (List.mem_of_mem_take hx);unfold i64in;omega))
 have h2:=itoa_len (d.coms.length:Int) (by have:=h.2.2.1;unfold i64in;omega)
 have h3:(d.coms.take k).length≤100:=by have:=h.2.2.1;simp;omega
 have e:dtA d k=wDeal ++ (32 :: (Lib.itoa (d.coms.length:Int) ++ dlTail ((d.coms.take k).map fun (x:Nat)=>Lib.itoa (x:Int)))):=by simp [dtA,dlTail]
 have hw:wDeal.length=4:=rfl
 rw [e,List.length_append,List.length_cons,List.length_append,hw]
 omega
theorem dtB_len {d:Dl} (h:DlFit d) {k:Nat} (hk:k≤d.boxes.length):(dtB d k).length≤40000:=by
 have h0:=dtA_len h (Nat.le_refl d.coms.length)
 have h1:=flat_len hexL 200 (d.boxes.take k) (fun x hx=>by have:=h.2.2.2.2 x (List.mem_of_mem_take hx);rw [hexL_len];omega)
 have h2:=itoa_len (d.point:Int) (by have:=h.2.1;unfold i64in;omega)
 have h3:(d.boxes.take k).length≤100:=by have:=h.2.2.2.1;simp;omega
 have e:dtB d k=dtA d d.coms.length ++ (32 :: (Lib.itoa (d.point:Int) ++ dlTail ((d.boxes.take k).map hexL))):=by simp [dtB,dlTail]
 rw [e,List.length_append,List.length_cons,List.length_append]
 omega
set_option maxHeartbeats 4000000 in
theorem text07_any (c b:Value) (d:Dl) (w:World) (hd:DlFit d) (hc:Sl w c d.coms) (hb:RdS w b d.boxes):Calls Tryz.prog 138 #[.agg (dlC c (d.point:Int) b)] w (MkS d.I.text w):=by
 obtain ⟨g,hg⟩:∃ g,w.heap.size=g:=⟨_,rfl⟩
 obtain ⟨w0,hw0⟩:∃ W,w.alloc (.cells (dlC c (d.point:Int) b) 132)=W:=⟨_,rfl⟩
 have r0:w0.heap[g]? =some (.cells (dlC c (d.point:Int) b) 132 (0,0)):=by rw [← hg,← hw0];exact heap_alloc_new _ _
 have u0:Upd [] [] w w0:=by rw [← hw0];exact (Upd.refl _ _).alloc _
 have HD:=Lib.hid hd
 have HC:=Lib.hid (hc.upd u0)
 have HB:=Lib.hid (hb.upd u0)
 obtain ⟨ca,cc,hcv,hcc,_⟩:=hc.form
 obtain ⟨ba,bc,hbv,hbc,_,_⟩:=hb.form
 obtain ⟨m,hm⟩:∃ m,m=d.coms.length:=⟨_,rfl⟩
 obtain ⟨n,hn⟩:∃ n,n=d.boxes.length:=⟨_,rfl⟩
 rw [← hm] at hcv hcc
 rw [← hn] at hbv hbc
 have HM:=Lib.hid hm
 have HN:=Lib.hid hn
 have hmn:m≤100∧n≤100:=by have:=hd.2.2;omega
 obtain ⟨P,hP⟩:∃ P:Int,P=(d.point:Int):=⟨_,rfl⟩
 have HP:=Lib.hid hP
 have HK:Hid (∀ W,Upd [] [] w0 W→W.cell? ⟨g,0,none⟩=some (.slice ca m cc)∧W.cell? ⟨g,1,none⟩=some (.int .i64 P)∧W.cell? ⟨g,2,none⟩=some (.slice ba n bc)):=fun W u=>by
  have h:=row_updH r0 u
  refine ⟨?_,?_,?_⟩
  · rw [cell_of_row _ g 0 _ _ _ h,← hcv];rfl
  · rw [cell_of_row _ g 1 _ _ _ h,hP];rfl
  · rw [cell_of_row _ g 2 _ _ _ h,← hbv];rfl
 have U0:=Lib.hid u0
 have HCV:=Lib.hid hcv
 have HBV:=Lib.hid hbv
 obtain ⟨k0,k1,k2⟩:=HK.out w0 (Upd.refl _ _)
 rw [← hP] at hw0 ⊢
 clear hd hc hb r0 u0 hm hn hP hcv hbv
 go_enter Tryz.func138,Tryz.ntmps138
 go_wp2_with fail
 refine (decimal7_nat m w0 (by omega)).mono ?_
 rintro e w1 ⟨y,HY,hy,rfl,hu⟩
 have hly:=itoa_len (m:Int) (by unfold i64in;omega)
 have t1:¬ 9223372036854775807<5+y.size:=by omega
 have HU1:=Lib.hid hu
 obtain ⟨A0,hA0⟩:∃ A:ByteArray,A=ByteArray.mk #[100,101,97,108,32] ++ y:=⟨_,rfl⟩
 have HA0:Hid (bs A0=dtA d 0):=by
  show _=_
  rw [hA0,bs_append,HY.out,HM.out]
  simp [dtA,dlTail,wDeal,bs]
 have hA0':=hA0.symm
 clear hu hy hly hA0
 go_wp2_with fail
 clear k0 k1 k2 t1 hA0'
 go_loopw [3,4] (fun t i wr=>∃ (k:Nat) (A:ByteArray),t=.string A∧i=.int .i64 (k:Int)∧k≤m∧Hid (bs A=dtA d k)∧Hid (Upd [] [] w0 wr)) (fun _ i _=>m - (intOf i).toNat)
 case atStart=>exact ⟨0,A0,rfl,rfl,Nat.zero_le _,HA0,HU1.out⟩
 case round =>
  obtain ⟨k,A,rfl,rfl,hk,HA,HU⟩:=hrel
  obtain ⟨k0,k1,k2⟩:=HK.out wr HU.out
  by_cases hlt:k<m
  · obtain ⟨x,hx⟩:∃ x,d.coms[k]? =some x:=⟨_,List.getElem?_eq_getElem (by rw [← HM.out];exact hlt)⟩
    have hxb:=HD.out.1 x (List.mem_of_getElem? hx)
    have HCS:=Lib.hid (HC.out.upd HU.out)
    rw [HCV.out] at HCS
    obtain ⟨cb,hcb,hcell⟩:=HCS.out.get hx
    have hsz:=dtA_len HD.out (show k≤d.coms.length by rw [← HM.out];omega)
    have hAs:=bs_size HA.out
    have hst:=Lib.hid (dtA_succ hx)
    have i0:(0:Int)≤(k:Int):=by omega
    have i1:(k:Int)<(m:Int):=by omega
    have t1:¬ 9223372036854775807<A.size+1:=by omega
    subst hcb
    have HAS:Hid (A.size≤3000):=by show _≤_;omega
    clear hx hsz hAs
    go_wp2_with fail
    refine (decimal7_nat x wr hxb).mono ?_
    rintro e w2 ⟨y2,HY2,hy2,rfl,hq⟩
    have hl2:=itoa_len (x:Int) (by unfold i64in;omega)
    have t2:¬ 9223372036854775807<A.size+1+y2.size:=by have:=HAS.out;omega
    have HUN:=Lib.hid (HU.out.trans hq)
    clear hq hy2 hl2
    go_wp2_with fail
    refine ⟨⟨k+1,_,rfl,by go_num,by omega,?_,HUN.out⟩,by first | (simp [intOf];done) | (simp [intOf];omega)⟩
    show _=_
    rw [hst.out,bs_append,bs_append,HA.out,HY2.out]
    simp [bs]
  · obtain rfl:k=m:=by omega
    have hAs:=bs_size HA.out
    have hsz:=dtA_len HD.out (show k≤d.coms.length by rw [← HM.out];omega)
    have t1:¬ 9223372036854775807<A.size+1:=by omega
    have HAS:Hid (A.size≤3000):=by show _≤_;omega
    have hpb:=HD.out.2.1
    clear hAs hsz
    go_wp2_with fail
    rw [HP.out]
    refine (decimal7_nat d.point wr hpb).mono ?_
    rintro e w2 ⟨y2,HY2,hy2,rfl,hq⟩
    have hl2:=itoa_len (d.point:Int) (by unfold i64in;omega)
    have t2:¬ 9223372036854775807<A.size+1+y2.size:=by have:=HAS.out;omega
    have HU2:=Lib.hid (HU.out.trans hq)
    obtain ⟨B0,hB0⟩:∃ B:ByteArray,A ++ ByteArray.mk #[32] ++ y2=B:=⟨_,rfl⟩
    have HB0:Hid (bs B0=dtB d 0):=by
     show _=_
     rw [← hB0,bs_append,bs_append,HA.out,HY2.out,HM.out]
     simp [dtB,dlTail,bs]
    clear hq hy2 hl2 hpb k0 k1 k2 HA HU
    go_wp2_with fail
    go_loopw [3,5] (fun t i wr=>∃ (k:Nat) (A:ByteArray),t=.string A∧i=.int .i64 (k:Int)∧k≤n∧Hid (bs A=dtB d k)∧Hid (Upd [] [] w0 wr)) (fun _ i _=>n - (intOf i).toNat)
    case atStart=>exact ⟨0,B0,rfl,rfl,Nat.zero_le _,HB0,HU2.out⟩
    case round =>
     obtain ⟨j,A,rfl,rfl,hk,HA,HU⟩:=hrel
     obtain ⟨k0,k1,k2⟩:=HK.out wr HU.out
     by_cases hlt:j<n
     · obtain ⟨x,hx⟩:∃ x,d.boxes[j]? =some x:=⟨_,List.getElem?_eq_getElem (by rw [← HN.out];exact hlt)⟩
       have hxb:=HD.out.2.2.2.2 x (List.mem_of_getElem? hx)
       obtain ⟨ao2,cap2,e2,_,_,hget⟩:=(HB.out.upd HU.out).form
       obtain ⟨bb,hbb,_,hcell⟩:=hget j x hx
       have hba:ba=some ⟨bb,0,none⟩:=by
        have h:=HBV.out.symm.trans e2
        simp only [Value.slice.injEq] at h
        rw [h.1,hbb]
       obtain ⟨xs,hxs⟩:∃ s:ByteArray,s=⟨x.toArray⟩:=⟨_,rfl⟩
       have hbx:bs xs=x:=by rw [hxs,bs_mk]
       have hcell':wr.cell? ⟨bb,j,none⟩=some (.string xs):=by rw [hcell,hxs];rfl
       have hsz:=dtB_len HD.out (show j≤d.boxes.length by rw [← HN.out];omega)
       have hAs:=bs_size HA.out
       have hst:=Lib.hid (dtB_succ hx)
       have i0:(0:Int)≤(j:Int):=by omega
       have i1:(j:Int)<(n:Int):=by omega
       have t1:¬ 9223372036854775807<A.size+1:=by omega
       subst hba
       have HAS:Hid (A.size≤40000):=by show _≤_;omega
       have hxz:xs.size≤100:=by rw [bs_size hbx];exact hxb
       have HBX:=Lib.hid hbx
       clear hx hsz hAs hbb e2 hget hcell hxs hbx
       go_wp2_with fail
       refine (hex07_any xs wr (by omega)).mono ?_
       rintro e w3 ⟨y3,HY3,hy3,rfl,hq⟩
       rw [HBX.out] at HY3 hy3
       have hl3:=hexL_len x
       have t2:¬ 9223372036854775807<A.size+1+y3.size:=by have:=HAS.out;omega
       have HUN:=Lib.hid (HU.out.trans hq)
       clear hq hy3 hl3
       go_wp2_with fail
       refine ⟨⟨j+1,_,rfl,by go_num,by omega,?_,HUN.out⟩,by first | (simp [intOf];done) | (simp [intOf];omega)⟩
       show _=_
       rw [hst.out,bs_append,bs_append,HA.out,HY3.out]
       simp [bs]
     · obtain rfl:j=n:=by omega
       have HF:Hid (bs A=d.I.text):=by show _=_;rw [HA.out,HN.out,dtB_all]
       clear HA
       go_wp2_with fail
       go_ret
       exact ⟨A,HF,by rw [bs_size HF.out];exact Nat.le_refl _,rfl,U0.out.trans HU.out⟩
def dealtL (ep:Int) (d:Dl):List UInt8:=[100,101,97,108,105,110,103,32] ++ (Lib.itoa ep ++ 32 :: d.I.text)
theorem dlI_len {d:Dl} (h:DlFit d):d.I.text.length≤40000:=by rw [← dtB_all];exact dtB_len h (Nat.le_refl _)
theorem dealtL_len {d:Dl} (h:DlFit d) {ep:Int} (he:i64in ep):(dealtL ep d).length≤40100:=by
 have h1:=dlI_len h
 have h2:=itoa_len ep he
 unfold dealtL
 simp only [List.length_append,List.length_cons,List.length_nil]
 omega
theorem dl_row_load {D:Array Value} {c b:Value} {p:Int} (hD:D=dlC c p b) {W:World} {g:Nat} (h:W.heap[g]? =some (.cells D 132 (0,0))):(Instr.loadAt 132 (.pointer (some ⟨g,0,none⟩))).run Tryz.prog W=.ok (.agg D) W:=by
 subst hD
 exact dl_load (cell_of_row _ g 0 _ _ _ h) (cell_of_row _ g 1 _ _ _ h) (cell_of_row _ g 2 _ _ _ h)
set_option maxHeartbeats 2000000 in
theorem dealt_any (ep:Int) (c b:Value) (d:Dl) (w:World) (he:i64in ep) (hd:DlFit d) (hc:Sl w c d.coms) (hb:RdS w b d.boxes):Calls Tryz.prog 74 #[.int .i64 ep,.agg (dlC c (d.point:Int) b)] w (MkS (dealtL ep d) w):=by
 obtain ⟨DV,hDV⟩:∃ D,D=dlC c (d.point:Int) b:=⟨_,rfl⟩
 obtain ⟨g,hg⟩:∃ g,w.heap.size=g:=⟨_,rfl⟩
 obtain ⟨w0,hw0⟩:∃ W,w.alloc (.cells DV 132)=W:=⟨_,rfl⟩
 have r0:=Lib.hid (show w0.heap[g]? =some (.cells DV 132 (0,0)) by rw [← hg,← hw0];exact heap_alloc_new _ _)
 have U0:=Lib.hid (show Upd [] [] w w0 by rw [← hw0];exact (Upd.refl _ _).alloc _)
 have HDV:=Lib.hid hDV
 have HT:Hid (∀ W,Upd [] [] w0 W→Calls Tryz.prog 138 #[.agg DV] W (MkS d.I.text W)):=fun W u=>by
  rw [hDV]
  exact text07_any c b d W hd (hc.upd (U0.out.trans u)) (hb.upd (U0.out.trans u))
 have HK:Hid (∀ W,Upd [] [] w0 W→(Instr.loadAt 132 (.pointer (some ⟨g,0,none⟩))).run Tryz.prog W=.ok (.agg DV) W):=fun W u=>dl_row_load hDV (row_updH r0.out u)
 have HE:=Lib.hid he
 have HL:=Lib.hid (And.intro (itoa_len ep he) (dlI_len hd))
 have ud0:Upd [] [] w0 w0.drew:=(Upd.refl _ _).drew
 rw [← hDV]
 clear he hd hc hb hDV
 go_enter Tryz.func74,Tryz.ntmps74
 go_upto_region 1 with (fail)
 refine wp_region_noPanic ?_
 refine wp_region_held_drew (S:=fun wp=>(Instr.loadAt 132 (.pointer (some ⟨g,0,none⟩))).run Tryz.prog wp=.ok (.agg DV) wp) (by kernel_rfl) ?_ (fun hHeld=>?_)
 · exact HK.out _ ud0
 refine tkY 0 hHeld ?_
 refine tkL 4 hHeld DV (fun w hSw=>hSw) ?_
 refine tk1 1 fun K hK=>?_
 go_simp;refine (decimal11_any ep _ HE.out).mono ?_;rintro e wv1 ⟨y1,HY1,hy1,rfl,hq⟩;have ud1:=ud0.trans hq;clear hq;have t1:¬ 9223372036854775807<8+y1.size:=(by have:=HL.out;omega);have t2:¬ 9223372036854775807<8+y1.size+1:=(by have:=HL.out;omega);go_wp2_with fail
 refine tkK hK (HK.out _ ud1) fun hHeld=>?_
 clear hK K
 refine tkY 2 hHeld ?_
 refine tkY 3 hHeld ?_
 refine tk1 5 fun K hK=>?_
 go_simp;refine (HT.out _ ud1).mono ?_;rintro e wv2 ⟨y2,HY2,hy2,rfl,hq⟩;have ud2:=ud1.trans hq;clear hq;have t3:¬ 9223372036854775807<8+y1.size+1+y2.size:=(by have:=HL.out;omega);go_wp2_with fail
 refine tkK hK (HK.out _ ud2) fun hHeld=>?_
 clear hK K
 refine tkY 6 hHeld ?_
 refine tkY 7 hHeld ?_
 refine wpAnyH_done (by kernel_rfl) ?_ _
 refine NoPanic.normal ?_
 go_wp2_with fail
 go_ret
 have e9:bs (ByteArray.mk #[100,101,97,108,105,110,103,32] ++ y1 ++ ByteArray.mk #[32] ++ y2)=dealtL ep d:=by
  rw [bs_append,bs_append,bs_append,HY1.out,HY2.out]
  simp [dealtL,bs]
 exact ⟨_,e9,by rw [bs_size e9];exact Nat.le_refl _,rfl,U0.out.trans ud2⟩
theorem shared_any (x:Nat) (c b:Value) (d:Dl) (w:World) (hx:x<1152921504606845789) (hp:d.point<2305843009213691579):Calls Tryz.prog 139 #[.int .i64 (x:Int),.agg (dlC c (d.point:Int) b)] w (MkN 2305843009213691579 (d.point ^ x % Pn) w):=by
 obtain ⟨g,hg⟩:∃ g,w.heap.size=g:=⟨_,rfl⟩
 obtain ⟨w0,hw0⟩:∃ W,w.alloc (.cells (dlC c (d.point:Int) b) 132)=W:=⟨_,rfl⟩
 have r0:=Lib.hid (show w0.heap[g]? =some (.cells (dlC c (d.point:Int) b) 132 (0,0)) by rw [← hg,← hw0];exact heap_alloc_new _ _)
 have U0:=Lib.hid (show Upd [] [] w w0 by rw [← hw0];exact (Upd.refl _ _).alloc _)
 have HK:Hid (∀ W,Upd [] [] w0 W→W.cell? ⟨g,1,none⟩=some (.int .i64 (d.point:Int))):=fun W u=>cell_of_row _ g 1 _ _ _ (row_updH r0.out u)
 obtain ⟨p,hpe⟩:∃ p,p=d.point:=⟨_,rfl⟩
 rw [← hpe] at HK hp hw0 ⊢
 clear hpe
 have ud0:Upd [] [] w0 w0.drew:=(Upd.refl _ _).drew
 have HXE:Hid ((x:Int) % 1152921504606845789=(x:Int)):=by show _=_;omega
 go_enter Tryz.func139,Tryz.ntmps139
 go_upto_region 1 with (fail)
 refine wp_region_noPanic ?_
 refine wp_region_held_drew (S:=fun wp=>wp.cell? ⟨g,1,none⟩=some (.int .i64 (p:Int))) (by kernel_rfl) ?_ (fun hHeld=>?_)
 · exact HK.out _ ud0
 refine tkY 0 hHeld ?_
 refine tkY 1 hHeld ?_
 refine tkY 2 hHeld ?_
 refine tk1 3 fun K hK=>?_
 go_simp;refine (rResidue_any (x:Int) 1152921504606845789 _ (by omega) (by omega)).mono ?_;rintro e wq ⟨r,HR,r0',r1',rfl,rfl⟩;obtain rfl:r=(x:Int):=HR.out.trans HXE.out;go_wp2_with fail
 refine tkK hK (HK.out _ ud0) fun hHeld=>?_
 clear hK K
 refine tk1 4 fun K hK=>?_
 go_simp;refine (rPow_n p x 2305843009213691579 _ (by omega) (by omega) rfl).mono ?_;rintro e wq ⟨t,HT,ht,rfl,rfl⟩;go_wp2_with fail
 refine tkK hK (HK.out _ ud0) fun hHeld=>?_
 clear hK K
 refine tkY 5 hHeld ?_
 refine wpAnyH_done (by kernel_rfl) ?_ _
 refine NoPanic.normal ?_
 go_wp2_with fail
 go_ret
 exact ⟨t,HT,ht,rfl,U0.out.trans ud0⟩
def MkCmp (i:Nat) (w:World) (e:Ending) (w':World):Prop:=∃ k c z:Nat,k<2305843009213691579∧c<1152921504606845789∧z<1152921504606845789∧e=.returned (.agg #[.int .i64 (i:Int),.int .i64 (k:Int),.int .i64 (c:Int),.int .i64 (z:Int)])∧Upd [] [] w w'
theorem cmpInfo (i k c z:Int):(Tryz.prog.info? 46).map (·.size)=some (#[.int .i64 i,.int .i64 k,.int .i64 c,.int .i64 z]:Array Value).size:=by
 show _=some 4
 kernel_rfl
set_option maxHeartbeats 4000000 in
theorem complain_any (x i:Nat) (c b:Value) (d:Dl) (w:World) (hx:x<1152921504606845789) (hp:memN d.point) (hb:RdS w b d.boxes) (hi:i<d.boxes.length) :
 Calls Tryz.prog 75 #[.int .i64 (x:Int),.agg (dlC c (d.point:Int) b),.int .i64 (i:Int)] w (MkCmp i w):=by
 obtain ⟨DV,hDV⟩:∃ D,D=dlC c (d.point:Int) b:=⟨_,rfl⟩
 obtain ⟨g,hg⟩:∃ g,w.heap.size=g:=⟨_,rfl⟩
 obtain ⟨w0,hw0⟩:∃ W,w.alloc (.cells DV 132)=W:=⟨_,rfl⟩
 have r0:w0.heap[g]? =some (.cells DV 132 (0,0)):=by rw [← hg,← hw0];exact heap_alloc_new _ _
 have u0:Upd [] [] w w0:=by rw [← hw0];exact (Upd.refl _ _).alloc _
 obtain ⟨gR,hgR⟩:∃ g,w0.heap.size=g:=⟨_,rfl⟩
 obtain ⟨w1,hw1⟩:∃ W,w0.alloc (.cells #[.int .i64 0,.int .i64 0,.int .i64 0,.int .i64 0] 46)=W:=⟨_,rfl⟩
 have RR:=Lib.hid (show w1.heap[gR]? =some (.cells #[.int .i64 0,.int .i64 0,.int .i64 0,.int .i64 0] 46 (0,0)) by rw [← hgR,← hw1];exact heap_alloc_new _ _)
 have u1:Upd [] [] w0 w1:=by rw [← hw1];exact (Upd.refl _ _).alloc _
 have R1:=Lib.hid (row_updH r0 u1)
 have U1:=Lib.hid (u0.trans u1)
 obtain ⟨ba,bc,hbv,hbc,hbc2,_⟩:=hb.form
 obtain ⟨n,hn⟩:∃ n,n=d.boxes.length:=⟨_,rfl⟩
 obtain ⟨p,hpe⟩:∃ p,p=d.point:=⟨_,rfl⟩
 rw [← hn] at hbv hi
 have hp2:p<2305843009213691579:=by rw [hpe];exact hp.2.1
 have HK:Hid (∀ W,Upd [] [] w1 W→W.cell? ⟨g,1,none⟩=some (.int .i64 (p:Int))∧(Instr.loadAt 132 (.pointer (some ⟨g,0,none⟩))).run Tryz.prog W=.ok (.agg DV) W):=fun W u=>by
  have h:=row_updH R1.out u
  refine ⟨?_,dl_row_load hDV h⟩
  rw [cell_of_row _ g 1 _ _ _ h,hDV,hpe];rfl
 have HK2:Hid (∀ W V,Upd [] [] w1 W→(W.setRow gR V).cell? ⟨g,1,none⟩=some (.int .i64 (p:Int))∧(Instr.loadAt 132 (.pointer (some ⟨g,0,none⟩))).run Tryz.prog (W.setRow gR V)=.ok (.agg DV) (W.setRow gR V)):=fun W V u=>by
  have hlt:g<gR:=by rw [← hgR];exact blk_lt r0
  have h:=row_setRowO (row_updH R1.out u) (Nat.ne_of_lt hlt) V
  refine ⟨?_,dl_row_load hDV h⟩
  rw [cell_of_row _ g 1 _ _ _ h,hDV,hpe];rfl
 have c1:=(HK.out w1 (Upd.refl _ _)).1
 have c2:w1.cell? ⟨g,2,none⟩=some (.slice ba n bc):=by rw [cell_of_row _ g 2 _ _ _ R1.out,hDV,← hbv];rfl
 have HMB:=Lib.hid (rmember_is (p:Int) true w1 (by unfold i64in;omega) (by rw [hpe];exact (memB_cast d.point).2 hp))
 have HSH:Hid (∀ W,Calls Tryz.prog 139 #[.int .i64 (x:Int),.agg DV] W (MkN 2305843009213691579 (d.point ^ x % Pn) W)):=fun W=>by
  rw [hDV]
  exact shared_any x c b d W hx hp.2.1
 have HPV:Hid (∀ W,Calls Tryz.prog 66 #[.int .i64 (x:Int),.int .i64 4,.int .i64 (p:Int)] W (fun e w'=>∃ a z:Nat,a<1152921504606845789∧z<1152921504606845789∧e=.returned (.agg #[.int .i64 (a:Int),.int .i64 (z:Int)])∧Upd [] [] W w')):=fun W=>by
  rw [hpe]
  refine (rprove_mem (x:Int) 4 d.point W (by omega) ⟨by decide,by decide,g_member⟩ hp).mono ?_
  rintro e w' ⟨a,z,_,_,ha,hz,rfl,hu⟩
  exact ⟨a,z,ha,hz,rfl,hu⟩
 have HG:Hid (w.heap.size≤gR):=by have:=u0.size;show _≤_;omega
 have i0:¬ (i:Int)<0:=by omega
 have i1:¬ (n:Int)≤(i:Int):=by omega
 have i2:¬ n≤i:=by omega
 rw [← hDV]
 clear hb hbv hbc hbc2 hn hpe hDV r0 u0 u1 hp
 go_enter Tryz.func75,Tryz.ntmps75
 go_wp2_with fail
 refine HMB.out.mono ?_
 rintro e w' ⟨rfl,rfl⟩
 have ud0:Upd [] [] w1 w1.drew:=(Upd.refl _ _).drew
 clear HMB
 go_upto_region 4 with (fail)
 refine wp_region_noPanic ?_
 refine wp_region_held_drew (S:=fun wp=>wp.cell? ⟨g,1,none⟩=some (.int .i64 (p:Int))∧(Instr.loadAt 132 (.pointer (some ⟨g,0,none⟩))).run Tryz.prog wp=.ok (.agg DV) wp) (by kernel_rfl) ?_ (fun hHeld=>?_)
 · exact HK.out _ ud0
 refine tkY 0 hHeld ?_
 refine tkY 1 hHeld ?_
 refine tkL 2 hHeld DV (fun w hSw=>hSw.2) ?_
 refine tkY 4 hHeld ?_
 refine tkY 5 hHeld ?_
 refine tkY 6 hHeld ?_
 refine tk1 3 fun K hK=>?_
 go_simp;refine (HSH.out _).mono ?_;rintro e wv1 ⟨kk,HKK,hkk,rfl,hq⟩;have ud1:=ud0.trans hq;clear hq;go_wp2_with fail
 refine tkK hK (HK.out _ ud1) fun hHeld=>?_
 clear hK K
 refine tk1 7 fun K hK=>?_
 go_simp;refine (HPV.out _).mono ?_;rintro e wv2 ⟨a,z,ha,hz,rfl,hq⟩;have ud2:=ud1.trans hq;clear hq;go_wp2_with fail
 refine tkK hK (HK.out _ ud2) fun hHeld=>?_
 clear hK K
 refine tkY 8 hHeld ?_
 refine tk1 9 fun K hK=>?_
 rw [if_pos (by rfl)];refine wp_store_row 46 _ _ rfl gR #[.int .i64 (i:Int),.int .i64 (kk:Int),.int .i64 (a:Int),.int .i64 (z:Int)] rfl rfl _ _ (row_updH RR.out ud2) (cmpInfo _ _ _ _) rfl (by simp [Value.oneCell']) ?_
 refine tkK hK (HK2.out _ _ ud2) fun hHeld=>?_
 clear hK K
 refine wpAnyH_done (by kernel_rfl) ?_ _
 refine NoPanic.normal ?_
 go_wp2_with fail
 exact bodyPost_ret (results_cell_row rfl _ _ gR _ #[.int .i64 (i:Int),.int .i64 (kk:Int),.int .i64 (a:Int),.int .i64 (z:Int)] _ _ rfl (setRow_heap _ _ _ _ _ _ (row_updH RR.out ud2)) Tryz.underlying46 rfl (cmpInfo _ _ _ _)) rfl ⟨kk,a,z,hkk,ha,hz,rfl,(U1.out.trans ud2).setRowNew HG.out _⟩
def BB (w:World) (g:Nat) (c:List UInt8):Prop:=∃ cur fr,w.heap[g]? =some (.cells cur 5 fr)∧c.length≤fr.1∧cur.toList.take c.length=byteVals c
theorem BB.frozen {w:World} {g:Nat} {c:List UInt8} (h:BB w g c) {j:Nat} (hj:j<c.length):w.frozen? ⟨g,j,none⟩=false:=by
 obtain ⟨cur,fr,h1,h2,h3⟩:=h
 simp [World.frozen?,h1]
 omega
theorem BB.cell {w:World} {g:Nat} {c:List UInt8} (h:BB w g c) {j:Nat} {b:UInt8} (hj:c[j]? =some b):w.cell? ⟨g,j,none⟩=some (.int .u8 (b.toNat:Int)):=by
 obtain ⟨cur,fr,h1,h2,h3⟩:=h
 have hjl:=(List.getElem?_eq_some_iff.1 hj).1
 rw [cell_of_row w g j _ _ _ h1]
 have e:(byteVals c)[j]? =some (byteV b):=by simp [byteVals,hj]
 rw [← h3,List.getElem?_take_of_lt hjl] at e
 simpa [byteV] using e
theorem BB.set {w:World} {g:Nat} {c:List UInt8} (h:BB w g c) {j:Nat} (hj:j<c.length) (b:UInt8):BB (w.setCell ⟨g,j,none⟩ (.int .u8 (b.toNat:Int))) g (c.set j b):=by
 obtain ⟨cur,fr,h1,h2,h3⟩:=h
 refine ⟨cur.setIfInBounds j (.int .u8 (b.toNat:Int)),fr,by simp [World.setCell,Array.getElem?_modify,h1],by simpa using h2,?_⟩
 have e:byteVals (c.set j b)=(byteVals c).set j (.int .u8 (b.toNat:Int)):=by simp [byteVals,List.map_set,byteV]
 rw [e,← h3,List.length_set,Array.toList_setIfInBounds]
 apply List.ext_getElem?
 intro i
 simp only [List.getElem?_take,List.getElem?_set,List.length_take]
 by_cases hi:i<c.length
 · rw [if_pos hi]
   by_cases hji:j=i
   · subst hji
     simp only [if_true]
     have h4:=congrArg List.length h3
     simp only [List.length_take,byteVals_length] at h4
     rw [if_pos (by omega),if_pos (by omega)]
   · rw [if_neg hji,if_neg hji,if_pos hi]
 · rw [if_neg hi]
   by_cases hji:j=i
   · omega
   · rw [if_neg hji,if_neg hi]
theorem BB.text {w:World} {g:Nat} {c:List UInt8} (h:BB w g c) (dst:TypeId) (hd:Tryz.prog.underlying dst=some .string) (k:Nat):(convert 126 dst (.slice (some ⟨g,0,none⟩) c.length k)).run Tryz.prog w=.ok (strV c) w:=by
 obtain ⟨cur,fr,h1,h2,h3⟩:=h
 have:=conv_bytes (P:=Tryz.prog) w 126 dst 5 Tryz.underlying126 Tryz.underlying5 hd g cur fr 5 h1 c h3 0 c.length k (by omega)
 simpa using this
theorem BB.make (w:World) (src:TypeId) (s:ByteArray) (hs:Tryz.prog.underlying src=some .string) (hm:s.size≤maxLen):∃ k w',(convert src 126 (.string s)).run Tryz.prog w=.ok (.slice (some ⟨w.heap.size,0,none⟩) s.size k) w'∧s.size≤k∧k≤maxLen∧BB w' w.heap.size (bs s)∧Upd [] [] w w':=by
 refine ⟨_,_,run_bytes_of_string (P:=Tryz.prog) w src 126 5 s hs Tryz.underlying126 Tryz.underlying5,?_,?_,⟨_,_,heap_alloc_new _ _,?_,?_⟩,(Upd.refl _ _).drew.alloc _⟩
 · exact grownCap_ge w s.size 0 _
 · exact grownCap_le_maxLen w s.size 0 _ hm
 · simp [bytesRow,bs]
 · simp [bytesRow,bs,byteVals]
   intro a _
   rfl
theorem wp_loadRun {P:Program} {o:Oper} {a:Act} {w:World} {K:Act→World→Prop} {Q:Exit→Act→World→Prop} (ty:TypeId) (x:Operand) (ho:o.op=.load ty x) (b of:Nat) (hx:a.eval x=.pointer (some ⟨b,of,none⟩)) (C:Array Value) (hr:(Instr.loadAt ty (.pointer (some ⟨b,of,none⟩))).run P w=.ok (.agg C) w) (h:K (a.put o.dst (.agg C)) w):o.wp P a w K Q:=by
 unfold Oper.wp execOp
 simp only [ho,hx,Sem.run_bind,hr,Result.andThen_ok]
 exact h
structure ChSt (w wr:World) (gC gV gQ gR:Nat) (CA EV:Array Value) (q0 q1 q2:Int):Prop where
 c:wr.heap[gC]? =some (.cells CA 34 (0,0))
 v:wr.heap[gV]? =some (.cells EV 48 (0,0))
 q:wr.heap[gQ]? =some (.cells #[.int .i64 q0,.int .i64 q1,.int .i64 q2] 50 (0,0))
 r:wr.heap[gR]? =some (.cells evd0.V 48 (0,0))
 up:Upd [] [] w wr
 base:w.heap.size≤gC∧gC<gV∧gV<gQ∧gQ<gR
section
variable {w wr w' : World} {gC gV gQ gR : Nat} {CA EV : Array Value} {q0 q1 q2 : Int}
theorem ChSt.quiet (h:ChSt w wr gC gV gQ gR CA EV q0 q1 q2) (u:Upd [] [] wr w'):ChSt w w' gC gV gQ gR CA EV q0 q1 q2 :=
 ⟨row_updH h.c u,row_updH h.v u,row_updH h.q u,row_updH h.r u,h.up.trans u,h.base⟩
theorem ChSt.setV (h:ChSt w wr gC gV gQ gR CA EV q0 q1 q2) (i:Nat) (l:List Value):ChSt w (wr.setCells gV i l) gC gV gQ gR CA (setAll EV i l) q0 q1 q2:=by
 have hb:=h.base
 exact ⟨row_setCellsQ h.c (by omega),heap_setCells gV _ l i wr EV h.v,row_setCellsQ h.q (by omega),row_setCellsQ h.r (by omega),Upd.setCellsNew (by omega) l i _ h.up,h.base⟩
theorem ChSt.other (h:ChSt w wr gC gV gQ gR CA EV q0 q1 q2) {g:Nat} (hg:gR<g) (i:Nat) (v:Value):ChSt w (wr.setCell ⟨g,i,none⟩ v) gC gV gQ gR CA EV q0 q1 q2:=by
 have hb:=h.base
 exact ⟨row_setCellO h.c (by omega),row_setCellO h.v (by omega),row_setCellO h.q (by omega),row_setCellO h.r (by omega),h.up.setNew (p:=⟨g,i,none⟩) (by show w.heap.size≤g;omega) _,h.base⟩
end
structure DlB (B:Nat) (W:World) (c:Value) (gb bc:Nat) (cur:Array Value) (d:Dl):Prop where
 com:W.ownsRow 0 3 1 c d.coms.length (digVals d.coms)
 box:W.heap[gb]? =some (.cells cur 9 (0,0))
 len:d.boxes.length≤bc∧bc≤maxLen∧cur.size=bc
 get:cur.toList.take d.boxes.length=strVals d.boxes
 base:B≤gb
theorem DlB.upd {B:Nat} {W W':World} {c:Value} {gb bc:Nat} {cur:Array Value} {d:Dl} (h:DlB B W c gb bc cur d) (u:Upd [] [] W W'):DlB B W' c gb bc cur d:=⟨row_up0 h.com u,row_updH h.box u,h.len,h.get,h.base⟩
theorem DlB.rds {B:Nat} {W:World} {c:Value} {gb bc:Nat} {cur:Array Value} {d:Dl} (h:DlB B W c gb bc cur d):RdS W (.slice (some ⟨gb,0,none⟩) d.boxes.length bc) d.boxes:=by
 refine ⟨_,bc,rfl,h.len.1,h.len.2.1,fun k x hk=>⟨gb,rfl,blk_lt h.box,?_⟩⟩
 have hjl:=(List.getElem?_eq_some_iff.1 hk).1
 rw [cell_of_row W gb k _ _ _ h.box]
 have e:(strVals d.boxes)[k]? =some (strV x):=by simp [strVals,hk]
 rw [← h.get,List.getElem?_take_of_lt hjl] at e
 simpa using e
theorem DlB.keep {B:Nat} {W W':World} {c:Value} {gb bc:Nat} {cur:Array Value} {d:Dl} {g:Nat} {Z:Array Value} (h:DlB B W c gb bc cur d) (hg:W.heap[g]? =some (.cells Z 132 (0,0))) (hk:∀ x,x≠g→W'.heap[x]? =W.heap[x]?):DlB B W' c gb bc cur d:=by
 refine ⟨?_,(hk gb ?_).trans h.box,h.len,h.get,h.base⟩
 · by_cases h0:d.coms.length=0
   · have hz:digVals d.coms=[]:=by rw [List.eq_nil_of_length_eq_zero h0];rfl
     obtain ⟨ao,cap,cv,h1,h2⟩:=row_slice h.com
     refine row_same h.com (fun x hx=>hk x ?_)
     intro hxg
     rcases h.com.2 with ⟨rfl,_⟩ | ⟨g2,cap2,cur2,rfl,_,r⟩
     · cases hx
     · simp [foot,Value.ownBlock] at hx
       subst hx
       rw [hxg,hg] at r
       have:=r.1
       simp at this
   · obtain ⟨g2,cap2,cur2,rfl,hg2,_⟩:=row_pos h.com (by omega)
     refine row_same h.com (fun x hx=>hk x ?_)
     intro hxg
     simp [foot,Value.ownBlock] at hx
     subst hx
     rw [hxg,hg] at hg2
     simp at hg2
 · intro e
   have hb:=h.box
   rw [e,hg] at hb
   simp at hb
theorem DlB.setBox {B:Nat} {W:World} {c:Value} {gb bc:Nat} {cur:Array Value} {d:Dl} (h:DlB B W c gb bc cur d) {n:Nat} (_hn:n<d.boxes.length) (x:ByteArray):DlB B (W.setCell ⟨gb,n,none⟩ (.string x)) c gb bc (cur.setIfInBounds n (.string x)) { d with boxes:=d.boxes.set n (bs x) }:=by
 refine ⟨?_,heap_setCell_same _ _ _ _ _ _ h.box,⟨by simp [h.len.1],h.len.2.1,by simp [h.len.2.2]⟩,?_,h.base⟩
 · refine row_same h.com (fun y hy=>?_)
   have hne:y≠gb:=by
    rcases h.com.2 with ⟨rfl,_⟩ | ⟨g2,cap2,cur2,rfl,_,r⟩
    · cases hy
    · intro e
      simp [foot,Value.ownBlock] at hy
      subst hy
      have r1:=r.1
      rw [e,h.box] at r1
      simp at r1
   have hyl:=row_foot_lt h.com y hy
   obtain ⟨o,ho⟩:∃ o,W.heap[y]? =some o:=⟨_,Array.getElem?_eq_getElem hyl⟩
   rw [row_setCellO ho hne,ho]
 · have e:strVals (d.boxes.set n (bs x))=(strVals d.boxes).set n (.string x):=by
    have:strV (bs x)=.string x:=by simp [strV,bs]
    simp [strVals,List.map_set,this]
   show List.take (d.boxes.set n (bs x)).length _=_
   rw [List.length_set,e,← h.get,Array.toList_setIfInBounds,List.take_set]
theorem DsOwn.elem {B:Nat} {w:World} {u:Value} {ds:List Dl} (h:DsOwn B w u ds) {k:Nat} {d:Dl} (hk:ds[k]? =some d) (hb:0<d.boxes.length):∃ g cap c gb bc cur,u=.slice (some ⟨g,0,none⟩) ds.length cap∧ds.length≤cap∧g<w.heap.size∧w.cell? ⟨g,k * 3,none⟩=some c∧w.cell? ⟨g,k * 3+1,none⟩=some (.int .i64 (d.point:Int))∧w.cell? ⟨g,k * 3+2,none⟩=some (.slice (some ⟨gb,0,none⟩) d.boxes.length bc)∧DlB B w c gb bc cur d:=by
 obtain ⟨cb,h1,h2,h3⟩:=h
 have hkl:=(List.getElem?_eq_some_iff.1 hk).1
 obtain ⟨g,cap,cur,rfl,hg,q1,q2,q3,q4⟩:=row_pos h1 (by omega)
 obtain ⟨p,hp⟩:∃ p,cb[k]? =some p:=⟨_,List.getElem?_eq_getElem (by rw [h2.1];omega)⟩
 obtain ⟨r1,r2,r3⟩:=h2.2 k d p hk hp
 obtain ⟨gb,bc,curb,e,hgb,b1,b2,b3,b4⟩:=row_pos r2 hb
 obtain ⟨a0,a1,a2⟩:=dlVals_get k d p hk hp
 rw [← q4,List.getElem?_take_of_lt (by omega)] at a0 a1 a2
 have hgn:=(r3 gb (.inr (by rw [e];simp [foot,Value.ownBlock]))).2
 rw [List.mem_append,not_or,List.mem_range] at hgn
 refine ⟨g,cap,p.1,gb,bc,curb,rfl,q1,blk_lt hg,(cell_of_row w g (k * 3) _ _ _ hg).trans (by simpa using a0),(cell_of_row w g (k * 3+1) _ _ _ hg).trans (by simpa using a1),?_,⟨r1,hgb,⟨b1,b2,by omega⟩,by simpa using b4,by omega⟩⟩
 rw [← e]
 exact (cell_of_row w g (k * 3+2) _ _ _ hg).trans (by simpa using a2)
theorem DlB.mono {B B':Nat} {W:World} {c:Value} {gb bc:Nat} {cur:Array Value} {d:Dl} (h:DlB B W c gb bc cur d) (hb:B'≤B):DlB B' W c gb bc cur d:=⟨h.com,h.box,h.len,h.get,Nat.le_trans hb h.base⟩
theorem dsN_at {ws:List Nat} {n k m:Nat} {s t:List UInt8} (hl:ws.length=n) (hk:k<m) (hn:n=m) (hs:s=t):(dsN ws s ws.length)[k]? =some (dlAt ws t k):=by
 subst hs
 have:k<ws.length:=by omega
 simp [dsN,this]
theorem dlAt_good {ws:List Nat} (hw:WsOk ws) (seed:List UInt8) (k:Nat):DlGood (dlAt ws seed k) ws.sum∧(dlAt ws seed k).coms.length=needN ws.sum:=dsN_good hw seed (k+1) _ (by simp [dsN,List.range_succ])
theorem dlAt_boxes {ws:List Nat} (hw:WsOk ws) (seed:List UInt8) (k:Nat):0<(dlAt ws seed k).boxes.length:=by
 have h:=(dlAt_good hw seed k).1.2.2.2.2.1
 have:=hw.sum
 omega
theorem DlB.one {B:Nat} {W:World} {c:Value} {gb bc:Nat} {cur:Array Value} {d:Dl} (h:DlB B W c gb bc cur d):c.oneCell'=true:=by
 obtain ⟨ao,cap,e,_,_⟩:=row_slice h.com
 rw [e]
 rfl
theorem dlC_one {c b:Value} {p:Int} (h1:c.oneCell'=true) (h2:b.oneCell'=true):(dlC c p b).all (·.oneCell')=true:=by simp only [dlC,List.all_toArray,List.all_cons,h1,h2];rfl
theorem dlAt_box {ws:List Nat} (hw:WsOk ws) (seed:List UInt8) (k:Nat):(dlAt ws seed k).boxes.length=ws.sum∧∀ b∈(dlAt ws seed k).boxes,b.length=16:=⟨(dlAt_good hw seed k).1.2.2.2.2.1,(dlAt_good hw seed k).1.2.2.2.2.2⟩
theorem DlB.foot_lt {B:Nat} {W:World} {c:Value} {gb bc:Nat} {cur:Array Value} {d:Dl} (h:DlB B W c gb bc cur d):∀ x,x∈foot c→x<W.heap.size:=row_foot_lt h.com
theorem DlB.setOther {B:Nat} {W:World} {c:Value} {gb bc:Nat} {cur:Array Value} {d:Dl} (h:DlB B W c gb bc cur d) {g:Nat} (h1:∀ x,x∈foot c→x≠g) (h2:gb≠g) (i:Nat) (v:Value):DlB B (W.setCell ⟨g,i,none⟩ v) c gb bc cur d:=by
 refine ⟨row_same h.com (fun y hy=>?_),row_setCellO h.box h2,h.len,h.get,h.base⟩
 have hyl:=row_foot_lt h.com y hy
 obtain ⟨o,ho⟩:∃ o,W.heap[y]? =some o:=⟨_,Array.getElem?_eq_getElem hyl⟩
 rw [row_setCellO ho (h1 y hy),ho]
theorem DlB.setOthers {B:Nat} {W:World} {c:Value} {gb bc:Nat} {cur:Array Value} {d:Dl} (h:DlB B W c gb bc cur d) {g:Nat} (h2:gb≠g) (h3:∀ {x:Nat} (_:x=g) (C:Array Value),W.heap[x]? ≠ some (.cells C 3 (0,0))) (i:Nat) (l:List Value):DlB B (W.setCells g i l) c gb bc cur d:=by
 refine ⟨row_same h.com (fun y hy=>?_),row_setCellsQ h.box h2,h.len,h.get,h.base⟩
 have hne:y≠g:=by
  intro e
  rcases h.com.2 with ⟨rfl,_⟩ | ⟨g2,cap2,cur2,rfl,_,r⟩
  · cases hy
  · simp [foot,Value.ownBlock] at hy
    subst hy
    exact h3 e cur2 r.1
 have hyl:=row_foot_lt h.com y hy
 obtain ⟨o,ho⟩:∃ o,W.heap[y]? =some o:=⟨_,Array.getElem?_eq_getElem hyl⟩
 rw [row_setCellsQ ho hne,ho]
end Go.Proofs.YtmjlkkbbnkanpaaGreatDoor
