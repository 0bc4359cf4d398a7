/- A builder beside which other blocks keep and what follows. -/
import Derived.Test.YtmjlkkbbnkanpaaGreatDoorHAA
import Derived.Test.YtmjlkkbbnkanpaaGreatDoorHBB
import Derived.Test.YtmjlkkbbnkanpaaGreatDoorHAE
import Derived.Test.YtmjlkkbbnkanpaaGreatDoorHAN
import Derived.Shelf.Strings.BuilderK
import Derived.Test.YtmjlkkbbnkanpaaGreatDoorHAL
import Derived.Test.YtmjlkkbbnkanpaaGreatDoorHAZ
namespace Go.Proofs.YtmjlkkbbnkanpaaGreatDoor
open Go.RowKit
set_option maxRecDepth 100000
theorem builderF_upd {T e:TypeId} {B b:Nat} {p:Value} {l:List Value} {w w':World} (h:Lib.BuilderAtF T e B b p l w) (u:Upd [] [] w w'):Lib.BuilderAtF T e B b p l w':=by
 obtain ⟨h1,v,hb,ho,hn⟩:=h
 refine ⟨h1,v,row_updH hb u,⟨ho.1,?_⟩,hn⟩
 rcases ho.2 with h2 | ⟨g,cap,cur,fz,hv,hg,hh,r⟩
 · exact .inl h2
 · exact .inr ⟨g,cap,cur,fz,hv,hg,row_updH hh u,r⟩
structure BtK (W0:World) (b:Nat) (wi:World) (acc:List UInt8):Prop where
 bd:Lib.IsBuilderF 150 5 W0.heap.size b (Lib.byteCells acc) wi
 up:Upd [] [] W0 wi
theorem BtK.upd {W0 wi wj:World} {b:Nat} {acc:List UInt8} (h:BtK W0 b wi acc) (u:Upd [] [] wi wj):BtK W0 b wj acc :=
 ⟨h.bd.imp (fun k=>builderF_upd k u) (fun k=>builderF_upd k u),h.up.trans u⟩
theorem BtK.start (W0:World):BtK W0 W0.heap.size (W0.alloc (.cells #[.pointer none,.slice none 0 0] 150)) []:=⟨Lib.IsBuilderF.of (Lib.fresh_isBuilder _ _ W0),(Upd.refl _ _).alloc _⟩
theorem BtK.write {W0 wi:World} {b:Nat} {acc:List UInt8} (h:BtK W0 b wi acc) (s:ByteArray) (hl:acc.length+s.size≤140737488355328) :
 Calls Tryz.prog 116 #[.pointer (some ⟨b,0,none⟩),.string s] wi (fun e w'=>e=.returned (.tuple #[.int .i64 s.size,.nilIface])∧BtK W0 b w' (acc ++ bs s)∧Lib.OthersKept 5 (some b) wi w'):=by
 have hlen:(Lib.byteCells acc).length=acc.length:=by simp [Lib.byteCells]
 refine (Any.Builder_WriteString_k { Tryz.lays156 with } Tryz.Builder_Extra_156 W0.heap.size b (Lib.byteCells acc) s wi h.bd (by rw [hlen];exact hl) h.up.size).mono ?_
 rintro e w' ⟨rfl,hb,hu,hk⟩
 have e2:Lib.byteCells acc ++ Lib.strCells s=Lib.byteCells (acc ++ bs s):=by simp [Lib.byteCells,Lib.strCells,bs]
 rw [e2] at hb
 exact ⟨rfl,⟨.inr hb,below_step h.up hu⟩,hk⟩
theorem BtK.text {W0 wi:World} {b:Nat} {acc:List UInt8} (h:BtK W0 b wi acc) (h0:acc≠[]) :
 Calls Tryz.prog 117 #[.pointer (some ⟨b,0,none⟩)] wi (fun e w'=>e=.returned (.string ⟨acc.toArray⟩)∧BtK W0 b w' acc):=by
 refine (Any.Builder_String_k { Tryz.lays156 with } Tryz.Builder_Extra_156 W0.heap.size b acc wi h.bd h0).mono ?_
 rintro e w' ⟨rfl,hb,hu,_⟩
 exact ⟨rfl,hb,below_step h.up hu⟩
def WrAt (w:World) (gW b:Nat):Prop:=w.heap[gW]? =some (.cells #[.func (.func 116) #[.pointer (some ⟨b,0,none⟩)] #[]] 155 (0,0))
theorem WrAt.kept {w w':World} {gW b:Nat} (h:WrAt w gW b) (hb:gW≠b) (k:Lib.OthersKept 5 (some b) w w'):WrAt w' gW b :=
 k gW _ h (by simpa using hb) (fun c fz e=>by
  injection e with _ e2 _
  exact absurd e2 (by decide))
theorem WrAt.upd {w w':World} {gW b:Nat} (h:WrAt w gW b) (u:Upd [] [] w w'):WrAt w' gW b:=row_updH h u
theorem WrAt.cell {w:World} {gW b:Nat} (h:WrAt w gW b):w.cell? ⟨gW,0,none⟩=some (.func (.func 116) #[.pointer (some ⟨b,0,none⟩)] #[]):=cell_of_row _ gW 0 _ _ _ h
set_option maxHeartbeats 1000000 in
theorem numT_any {W0 wi:World} {b gW:Nat} {acc:List UInt8} (n:Int) (hn:i64in n) (h:BtK W0 b wi acc) (hl:acc.length≤140737488000000) (hW:WrAt wi gW b) (hb:gW≠b) (htab:Tabs W0) :
 Calls Tryz.prog 282 #[.int .i64 n,.pointer (some ⟨gW,0,none⟩)] wi (fun e w'=>e=.returned (.tuple #[])∧BtK W0 b w' (acc ++ 32 :: Lib.itoa n)∧WrAt w' gW b):=by
 have HB:=Lib.hid h
 have HW:=Lib.hid hW
 have c0:=hW.cell
 have HL:=Lib.hid hl
 have HN:=Lib.hid hn
 clear h hW hl hn
 go_enter Tryz.func282,Tryz.ntmps282
 go_wp2_with (go_at_fn 116)
 refine (HB.out.write ⟨#[32]⟩ (by have:=HL.out;show _+1≤_;omega)).mono ?_
 rintro e w1 ⟨rfl,hb1,hk⟩
 have HB1:=Lib.hid hb1
 have HW1:=Lib.hid (HW.out.kept hb hk)
 clear hb1 hk c0 HB HW
 have c1:=HW1.out.cell
 go_upto_region 1 with (fail)
 have ud0:Upd [] [] w1 w1.drew:=(Upd.refl _ _).drew
 refine wp_region_noPanic ?_
 refine wp_region_held_drew (S:=fun wp=>wp.cell? ⟨gW,0,none⟩=some (.func (.func 116) #[.pointer (some ⟨b,0,none⟩)] #[])) (by kernel_rfl) ?_ (fun hHeld=>?_)
 · exact (HW1.out.upd ud0).cell
 refine tkY 0 hHeld ?_
 refine tkY 1 hHeld ?_
 refine tk1 2 fun K hK=>?_
 go_simp;refine (itoa_any n _ HN.out (htab.upd (HB1.out.up.trans ud0))).mono ?_;rintro e wv1 ⟨y,HY,hy,rfl,hq⟩;have ud1:=ud0.trans hq;have HB2:=Lib.hid (HB1.out.upd ud1);have HW2:=Lib.hid (HW1.out.upd ud1);have HY2:=Lib.hid (And.intro HY.out hy);clear hq HY hy;go_wp2_with fail
 refine tkK hK (HW2.out.cell) fun hHeld=>?_
 clear hK K
 refine tk1 3 fun K hK=>?_
 go_simp;refine (HB2.out.write y (by have:=HL.out;have:=itoa_len n HN.out;have:=HY2.out.2;simp only [List.length_append];show _+1+_≤_;omega)).mono ?_;rintro e wv2 ⟨rfl,hb1,hk⟩;have HB3:=Lib.hid hb1;have HW3:=Lib.hid (HW2.out.kept hb hk);clear hb1 hk;go_wp2_with fail
 refine tkK hK (HW3.out.cell) fun hHeld=>?_
 clear hK K
 refine wpAnyH_done (by kernel_rfl) ?_ _
 refine NoPanic.normal ?_
 go_wp2_with fail
 go_end0
 refine ⟨rfl,?_,HW3.out⟩
 have h:=HB3.out
 rw [HY2.out.1,List.append_assoc] at h
 exact h
def dtxA (d:DlI) (k:Nat):List UInt8:=wDeal ++ dlTail (Lib.itoa (d.coms.length:Int) :: (d.coms.take k).map Lib.itoa)
def dtxB (d:DlI) (k:Nat):List UInt8:=dtxA d d.coms.length ++ dlTail (Lib.itoa d.point :: (d.boxes.take k).map hexL)
theorem dtxA_succ {d:DlI} {k:Nat} {x:Int} (h:d.coms[k]? =some x):dtxA d (k+1)=dtxA d k ++ 32 :: Lib.itoa x:=by
 unfold dtxA
 rw [List.take_add_one,h]
 simp [dlTail]
theorem dtxB_succ {d:DlI} {k:Nat} {x:List UInt8} (h:d.boxes[k]? =some x):dtxB d (k+1)=dtxB d k ++ 32 :: hexL x:=by
 unfold dtxB
 rw [List.take_add_one,h]
 simp [dlTail]
theorem dtxB_all (d:DlI):dtxB d d.boxes.length=d.text:=by
 rw [DlI.text_eq]
 unfold dtxB dtxA
 rw [List.take_length,List.take_length]
 simp [dlTail]
theorem tail_len {α:Type} (f:α→List UInt8) (m:Nat):∀ l:List α,(∀ x∈l,(f x).length≤m)→(dlTail (l.map f)).length≤(m+1) * l.length
 | [],_=>by simp [dlTail]
 | x :: r,h=>by
  have h1:=tail_len f m r (fun y hy=>h y (by simp [hy]))
  have h2:=h x (by simp)
  have e:dlTail ((x :: r).map f)=32 :: (f x ++ dlTail (r.map f)):=by simp [dlTail]
  rw [e,List.length_cons,List.length_append,List.length_cons,Nat.mul_add]
  omega
def DlI.fit (d:DlI):Prop:=(∀ c∈d.coms,i64in c)∧i64in d.point∧d.coms.length≤1000000∧d.boxes.length≤1000000∧∀ b∈d.boxes,b.length≤1000000
theorem dtxA_len {d:DlI} (h:d.fit) {k:Nat} (hk:k≤d.coms.length):(dtxA d k).length≤30000000:=by
 have h1:=tail_len Lib.itoa 20 (d.coms.take k) (fun x hx=>itoa_len _ (h.1 x (List.mem_of_mem_take hx)))
 have h2:=itoa_len (d.coms.length:Int) (by have:=h.2.2.1;unfold i64in;omega)
 have h3:(d.coms.take k).length≤1000000:=by have:=h.2.2.1;simp;omega
 have e:dtxA d k=wDeal ++ (32 :: (Lib.itoa (d.coms.length:Int) ++ dlTail ((d.coms.take k).map Lib.itoa))):=by simp [dtxA,dlTail]
 have hw:wDeal.length=4:=rfl
 rw [e,List.length_append,List.length_cons,List.length_append,hw]
 omega
theorem dtxB_len {d:DlI} (h:d.fit) {k:Nat} (hk:k≤d.boxes.length):(dtxB d k).length≤3000000000000:=by
 have h0:=dtxA_len h (Nat.le_refl d.coms.length)
 have h1:=tail_len hexL 2000000 (d.boxes.take k) (fun x hx=>by have:=h.2.2.2.2 x (List.mem_of_mem_take hx);rw [hexL_len];omega)
 have h2:=itoa_len d.point h.2.1
 have h3:(d.boxes.take k).length≤1000000:=by have:=h.2.2.2.1;simp;omega
 have e:dtxB d k=dtxA d d.coms.length ++ (32 :: (Lib.itoa d.point ++ dlTail ((d.boxes.take k).map hexL))):=by simp [dtxB,dlTail]
 rw [e,List.length_append,List.length_cons,List.length_append]
 omega
theorem hexX {x z:Nat} (hx:x<16) (hz:z=x+1):bs ((⟨#[48,49,50,51,52,53,54,55,56,57,97,98,99,100,101,102]⟩:ByteArray).extract x z)=[hexD x]:=by
 subst hz
 have:∀ x:Fin 16,bs ((⟨#[48,49,50,51,52,53,54,55,56,57,97,98,99,100,101,102]⟩:ByteArray).extract x.val (x.val+1))=[hexD x.val]:=by decide
 exact this ⟨x,hx⟩
theorem hexL_take {x:List UInt8} {q:Nat} {c:UInt8} (h:x[q]? =some c):hexL (x.take (q+1))=hexL (x.take q) ++ [hexD (c.toNat / 16),hexD (c.toNat % 16)]:=by
 rw [List.take_add_one,h]
 induction x.take q with
 | nil=>rfl
 | cons a r ih=>simp only [List.cons_append,hexL];rw [ih]
set_option maxHeartbeats 8000000 in
theorem dealText_any (d:DlI) (cv bv:Value) (w:World) (hd:d.fit) (hc:RdI w cv d.coms) (hb:RdS w bv d.boxes) (htab:Tabs w):Calls Tryz.prog 248 #[.agg #[cv,.int .i64 d.point,bv]] w (MkS d.text w):=by
 obtain ⟨g,hg⟩:∃ g,w.heap.size=g:=⟨_,rfl⟩
 obtain ⟨w0,hw0⟩:∃ W,w.alloc (.cells #[cv,.int .i64 d.point,bv] 132)=W:=⟨_,rfl⟩
 have r0:w0.heap[g]? =some (.cells #[cv,.int .i64 d.point,bv] 132 (0,0)):=by rw [← hg,← hw0];exact heap_alloc_new _ _
 have u0:Upd [] [] w w0:=by rw [← hw0];exact (Upd.refl _ _).alloc _
 obtain ⟨b,hb'⟩:∃ b,w0.heap.size=b:=⟨_,rfl⟩
 have hst:=BtK.start w0
 obtain ⟨w1,hw1⟩:∃ W,w0.alloc (.cells #[.pointer none,.slice none 0 0] 150)=W:=⟨_,rfl⟩
 rw [hw1,hb'] at hst
 have hs1:w1.heap.size=b+1:=by rw [← hw1,World.size_alloc,hb']
 obtain ⟨gW,hgW⟩:∃ g,w1.heap.size=g:=⟨_,rfl⟩
 have HD:=Lib.hid hd
 have HC:=Lib.hid (hc.upd u0)
 have HBX:=Lib.hid (hb.upd u0)
 have HT:=Lib.hid (htab.upd u0)
 obtain ⟨ca,cc,hcv,hcc,_,_⟩:=hc.form
 obtain ⟨ba,bc,hbv,hbc,_,_⟩:=hb.form
 obtain ⟨m,hm⟩:∃ m,m=d.coms.length:=⟨_,rfl⟩
 obtain ⟨n,hn⟩:∃ n,n=d.boxes.length:=⟨_,rfl⟩
 rw [← hm] at hcv hcc
 rw [← hn] at hbv hbc
 have HM:=Lib.hid hm
 have HN:=Lib.hid hn
 have hmn:m≤1000000∧n≤1000000:=by have:=hd.2.2;omega
 obtain ⟨P,hP⟩:∃ P:Int,P=d.point:=⟨_,rfl⟩
 have HP:=Lib.hid hP
 have HK:Hid (∀ W,Upd [] [] w0 W→W.cell? ⟨g,0,none⟩=some (.slice ca m cc)∧W.cell? ⟨g,1,none⟩=some (.int .i64 P)∧W.cell? ⟨g,2,none⟩=some (.slice ba n bc)):=fun W u=>by
  have h:=row_updH r0 u
  refine ⟨?_,?_,?_⟩
  · rw [cell_of_row _ g 0 _ _ _ h,← hcv];rfl
  · rw [cell_of_row _ g 1 _ _ _ h,hP];rfl
  · rw [cell_of_row _ g 2 _ _ _ h,← hbv];rfl
 have U0:=Lib.hid u0
 have HCV:=Lib.hid hcv
 have HBV:=Lib.hid hbv
 have HST:=Lib.hid hst
 have HBW:Hid (gW≠b):=by show _≠_;omega
 rw [← hP] at hw0 ⊢
 clear hd hc hb htab r0 u0 hm hn hP hcv hbv hst hs1
 have hA:(w1.alloc (.cells #[.nilFunc] 155)).heap[gW]? =some (.cells #[.nilFunc] 155 (0,0)):=by rw [← hgW];exact heap_alloc_new _ _
 have cA:=(cell_of_row _ gW 0 _ _ _ hA).trans (show _=some Value.nilFunc from rfl)
 have fA:=frozen_of_row _ gW 0 _ _ hA
 obtain ⟨w2,hw2⟩:∃ W,(w1.alloc (.cells #[.nilFunc] 155)).setCell ⟨gW,0,none⟩ (.func (.func 116) #[.pointer (some ⟨b,0,none⟩)] #[])=W:=⟨_,rfl⟩
 have q2:Upd [] [] w1 w2:=by rw [← hw2];exact ((Upd.refl _ _).alloc _).setNew (p:=⟨gW,0,none⟩) (Nat.le_of_eq hgW) _
 have HW2:Hid (WrAt w2 gW b):=by
  show WrAt _ _ _
  rw [← hw2]
  exact heap_setCell_same _ gW 0 _ _ _ hA
 have HST2:=Lib.hid (HST.out.upd q2)
 have cW:=HW2.out.cell
 clear q2 HST hA
 have hsf:(store ⟨gW,0,none⟩ (.func (.func 116) #[.pointer (some ⟨b,0,none⟩)] #[])).run Tryz.prog (w1.alloc (.cells #[.nilFunc] 155))=.ok () w2:=by
  rw [run_store Tryz.prog _ _ _ _ rfl]
  rw [cA,← hw2]
  simp [fA]
 have hmf:∀ (fn:Fn) (first cap:Array Value) (w:World),(Instr.makeFunc fn first cap).run Tryz.prog w=.ok (.func fn first cap) w:=fun _ _ _ _=>rfl
 obtain ⟨k0,k1,k2⟩:=HK.out w2 HST2.out.up
 go_enter Tryz.func248,Tryz.ntmps248
 go_wp2_with (go_at_fn 116)
 refine (HST2.out.write ⟨#[100,101,97,108]⟩ (by show 0+4≤_;omega)).mono ?_
 rintro e w3 ⟨rfl,hb1,hk⟩
 have HB3:=Lib.hid hb1
 have HW3:=Lib.hid (HW2.out.kept HBW.out hk)
 obtain ⟨k0,k1,k2⟩:=HK.out w3 HB3.out.up
 clear hb1 hk hw2 hsf cA fA HW2 HST2 cW
 go_wp2_with (go_at_fn 282)
 refine (numT_any (m:Int) (by unfold i64in;omega) HB3.out (by show 4≤_;omega) HW3.out HBW.out HT.out).mono ?_
 rintro e w4 ⟨rfl,hb1,hw'⟩
 have HB4:Hid (BtK w0 b w4 (dtxA d 0)):=by
  have e:dtxA d 0=[] ++ bs ⟨#[100,101,97,108]⟩ ++ 32 :: Lib.itoa (m:Int):=by rw [HM.out];simp [dtxA,dlTail,wDeal,bs]
  show BtK _ _ _ _
  rw [e]
  exact hb1
 have HW4:=Lib.hid hw'
 obtain ⟨k0,k1,k2⟩:=HK.out w4 HB4.out.up
 clear hb1 hw' HB3 HW3
 go_wp2_with fail
 clear k0 k1 k2
 go_loopw [7,23] (fun _ i wr=>∃ k:Nat,i=.int .i64 (k:Int)∧k≤m∧Hid (BtK w0 b wr (dtxA d k))∧Hid (WrAt wr gW b)) (fun _ i _=>m - (intOf i).toNat)
 case atStart=>exact ⟨0,rfl,Nat.zero_le _,HB4.out,HW4.out⟩
 case round =>
  obtain ⟨k,rfl,hk,HB,HW⟩:=hrel
  by_cases hlt:k<m
  · obtain ⟨x,hx⟩:∃ x,d.coms[k]? =some x:=⟨_,List.getElem?_eq_getElem (by rw [← HM.out];exact hlt)⟩
    have hxi:=HD.out.1 x (List.mem_of_getElem? hx)
    obtain ⟨ao,cp,e2,_,_,hget⟩:=(HC.out.upd HB.out.up).form
    obtain ⟨bb,hbb,_,hcell⟩:=hget k x hx
    have hca:ca=some ⟨bb,0,none⟩:=by
     have h:=HCV.out.symm.trans e2
     simp only [Value.slice.injEq] at h
     rw [h.1,hbb]
    have hst:=Lib.hid (dtxA_succ hx)
    have hsz:=Lib.hid (dtxA_len HD.out (show k≤d.coms.length by rw [← HM.out];omega))
    have i0:(0:Int)≤(k:Int):=by omega
    have i1:(k:Int)<(m:Int):=by omega
    subst hca
    clear hx hbb e2 hget
    go_wp2_with (go_at_fn 282)
    refine (numT_any x hxi HB.out (by have:=hsz.out;omega) HW.out HBW.out HT.out).mono ?_
    rintro e w5 ⟨rfl,hb1,hw'⟩
    rw [← hst.out] at hb1
    have HB5:=Lib.hid hb1
    have HW5:=Lib.hid hw'
    clear hb1 hw' hcell
    go_wp2_with fail
    exact ⟨⟨k+1,by go_num,by omega,HB5.out,HW5.out⟩,by first | (simp [intOf];done) | (simp [intOf];omega)⟩
  · obtain rfl:k=m:=by omega
    obtain ⟨k0,k1,k2⟩:=HK.out wr HB.out.up
    have hsz:=Lib.hid (dtxA_len HD.out (show k≤d.coms.length by rw [← HM.out];omega))
    have hpi:i64in P:=by rw [HP.out];exact HD.out.2.1
    go_wp2_with (go_at_fn 282)
    refine (numT_any P hpi HB.out (by have:=hsz.out;omega) HW.out HBW.out HT.out).mono ?_
    rintro e w5 ⟨rfl,hb1,hw'⟩
    have HB5:Hid (BtK w0 b w5 (dtxB d 0)):=by
     have e:dtxB d 0=dtxA d k ++ 32 :: Lib.itoa P:=by rw [HM.out,HP.out];simp [dtxB,dlTail]
     show BtK _ _ _ _
     rw [e]
     exact hb1
    have HW5:=Lib.hid hw'
    obtain ⟨k0,k1,k2⟩:=HK.out w5 HB5.out.up
    clear hb1 hw' HB HW hsz hpi
    go_wp2_with fail
    clear k0 k1 k2
    go_loopw [9,10,38,46] (fun _ _ i _ wr=>∃ k:Nat,i=.int .i64 (k:Int)∧k≤n∧Hid (BtK w0 b wr (dtxB d k))∧Hid (WrAt wr gW b)) (fun _ _ i _ _=>n - (intOf i).toNat)
    case atStart=>exact ⟨0,rfl,Nat.zero_le _,HB5.out,HW5.out⟩
    case round =>
     obtain ⟨j,rfl,hj,HB,HW⟩:=hrel
     by_cases hlj:j<n
     · obtain ⟨x,hx⟩:∃ x,d.boxes[j]? =some x:=⟨_,List.getElem?_eq_getElem (by rw [← HN.out];exact hlj)⟩
       have hxb:=HD.out.2.2.2.2 x (List.mem_of_getElem? hx)
       obtain ⟨ao,cp,e2,_,_,hget⟩:=(HBX.out.upd HB.out.up).form
       obtain ⟨bb,hbb,_,hcell⟩:=hget j x hx
       have hba:ba=some ⟨bb,0,none⟩:=by
        have h:=HBV.out.symm.trans e2
        simp only [Value.slice.injEq] at h
        rw [h.1,hbb]
       obtain ⟨xs,hxs⟩:∃ s:ByteArray,s=⟨x.toArray⟩:=⟨_,rfl⟩
       have hbx:bs xs=x:=by rw [hxs,bs_mk]
       have hcell':wr.cell? ⟨bb,j,none⟩=some (.string xs):=by rw [hcell,hxs];rfl
       have hst:=Lib.hid (dtxB_succ hx)
       have hsz:=Lib.hid (dtxB_len HD.out (show j≤d.boxes.length by rw [← HN.out];omega))
       have i0:(0:Int)≤(j:Int):=by omega
       have i1:(j:Int)<(n:Int):=by omega
       have hxz:xs.size≤1000000:=by rw [bs_size hbx];exact hxb
       have HXB:=Lib.hid hbx
       have cW:=HW.out.cell
       subst hba
       clear hx hbb e2 hget hcell hxs hbx hxb
       go_wp2_with (go_at_fn 116)
       refine (HB.out.write ⟨#[32]⟩ (by have:=hsz.out;show _+1≤_;omega)).mono ?_
       rintro e w6 ⟨rfl,hb1,hk⟩
       have HB6:=Lib.hid hb1
       have HW6:=Lib.hid (HW.out.kept HBW.out hk)
       clear hb1 hk hcell' cW
       go_wp2_with fail
       go_loopw [10,46] (fun _ i wi=>∃ q:Nat,i=.int .i64 (q:Int)∧q≤xs.size∧Hid (BtK w0 b wi (dtxB d j ++ 32 :: hexL (x.take q)))∧Hid (WrAt wi gW b)) (fun _ i _=>xs.size - (intOf i).toNat)
       case atStart =>
        have h:=HB6.out
        exact ⟨0,rfl,Nat.zero_le _,h,HW6.out⟩
       case round =>
        obtain ⟨q,rfl,hq,HBi,HWi⟩:=hrel
        by_cases hlq:q<xs.size
        · have hc:=bs_get' xs q hlq
          rw [HXB.out] at hc
          have HC:=Lib.hid hc
          have hb256:xs[q].toNat<256:=xs[q].toNat_lt
          obtain ⟨x0,hx0⟩:∃ x0,x0=xs[q].toNat / 16:=⟨_,rfl⟩
          obtain ⟨x1,hx1⟩:∃ x1,x1=xs[q].toNat % 16:=⟨_,rfl⟩
          have v0:(xs[q].toNat:Int) / 16=(x0:Int):=by omega
          have v1:Go.bits .and .u8 (xs[q].toNat:Int) 15=(x1:Int):=by rw [hx1];exact and15 _ hb256
          obtain ⟨z0,hz0⟩:∃ z0,z0=x0+1:=⟨_,rfl⟩
          obtain ⟨z1,hz1⟩:∃ z1,z1=x1+1:=⟨_,rfl⟩
          have w0':IntKind.u8.wrap ((x0:Int)+1)=(z0:Int):=by rw [IntWalk.u8_in _ (by omega)];omega
          have w1':IntKind.u8.wrap ((x1:Int)+1)=(z1:Int):=by rw [IntWalk.u8_in _ (by omega)];omega
          have a0:x0≤z0:=by omega
          have a1:x1≤z1:=by omega
          have b0:z0≤16:=by omega
          have b1:z1≤16:=by omega
          have i2:(0:Int)≤(q:Int):=by omega
          have i3:(q:Int)<(xs.size:Int):=by omega
          have HX:=Lib.hid (And.intro hx0 (And.intro hx1 (And.intro hz0 hz1)))
          clear hc hx0 hx1 hz0 hz1
          go_upto_region 19 with (fail)
          have ud0:Upd [] [] wr wr.drew:=(Upd.refl _ _).drew
          have b0':(z0:Int)≤16:=by omega
          have b1':(z1:Int)≤16:=by omega
          have hsx:=bs_size HXB.out
          have HSX:Hid (x.length≤1000000):=by show _≤_;omega
          have HTK:=Lib.hid (hexL_take (x:=x) (q:=q) HC.out)
          clear hsx
          refine @_root_.id ((∀ W:World,Hid (BtK w0 b W (dtxB d j ++ 32 :: hexL (x.take q) ++ bs ((⟨#[48,49,50,51,52,53,54,55,56,57,97,98,99,100,101,102]⟩:ByteArray).extract x0 z0)))→Hid (WrAt W gW b)→(?pj3:World→Prop) W)→_) (fun hJ=>?mj3) ?jj3
          case mj3 =>
           refine wp_region_noPanic ?_
           refine wp_region_held_drew (S:=fun wp=>wp.cell? ⟨gW,0,none⟩=some (.func (.func 116) #[.pointer (some ⟨b,0,none⟩)] #[])) (by kernel_rfl) ?_ (fun hHeld=>?_)
           · exact (HWi.out.upd ud0).cell
           refine tkY 0 hHeld ?_
           refine tkY 1 hHeld ?_
           refine tkY 2 hHeld ?_
           refine tkY 3 hHeld ?_
           refine tkY 4 hHeld ?_
           refine tkY 5 hHeld ?_
           refine tkY 6 hHeld ?_
           refine tkY 7 hHeld ?_
           refine tkY 8 hHeld ?_
           refine tkY 9 hHeld ?_
           refine tkY 10 hHeld ?_
           refine tk1 11 fun K hK=>?_
           go_simp;refine ((HBi.out.upd ud0).write _ (by have:=hsz.out;have:=HSX.out;have e:=congrArg List.length (hexX (x:=x0) (z:=z0) (by have:=HX.out;omega) (by have:=HX.out;omega));rw [bs_length] at e;simp only [List.length_append,List.length_cons,hexL_len,List.length_take] at e ⊢;have:=Nat.min_le_right q x.length;(try simp only [List.length_nil] at e ⊢);omega)).mono ?_;rintro e wv ⟨rfl,hb1,hk⟩;have HBj0:=Lib.hid hb1;have HWj0:=Lib.hid ((HWi.out.upd ud0).kept HBW.out hk);clear hb1 hk;go_wp2_with fail
           refine tkK hK (HWj0.out.cell) fun hHeld=>?_
           clear hK K
           refine wpAnyH_done (by kernel_rfl) ?_ _
           refine NoPanic.normal ?_
           exact hJ wv HBj0 HWj0
          intro wA HBj0 HWj0
          skip
          rw [hexX (x:=x0) (z:=z0) (by have:=HX.out;omega) (by have:=HX.out;omega)] at HBj0
          go_upto_region 20 with (fail)
          have ue0:Upd [] [] wA wA.drew:=(Upd.refl _ _).drew
          refine @_root_.id ((∀ W:World,Hid (BtK w0 b W (dtxB d j ++ 32 :: hexL (x.take q) ++ [hexD x0] ++ bs ((⟨#[48,49,50,51,52,53,54,55,56,57,97,98,99,100,101,102]⟩:ByteArray).extract x1 z1)))→Hid (WrAt W gW b)→(?pj15:World→Prop) W)→_) (fun hJ=>?mj15) ?jj15
          case mj15 =>
           refine wp_region_noPanic ?_
           refine wp_region_held_drew (S:=fun wp=>wp.cell? ⟨gW,0,none⟩=some (.func (.func 116) #[.pointer (some ⟨b,0,none⟩)] #[])) (by kernel_rfl) ?_ (fun hHeld=>?_)
           · exact (HWj0.out.upd ue0).cell
           refine tkY 0 hHeld ?_
           refine tkY 1 hHeld ?_
           refine tkY 2 hHeld ?_
           refine tkY 3 hHeld ?_
           refine tkY 4 hHeld ?_
           refine tkY 5 hHeld ?_
           refine tkY 6 hHeld ?_
           refine tkY 7 hHeld ?_
           refine tkY 8 hHeld ?_
           refine tkY 9 hHeld ?_
           refine tkY 10 hHeld ?_
           refine tk1 11 fun K hK=>?_
           go_simp;refine ((HBj0.out.upd ue0).write _ (by have:=hsz.out;have:=HSX.out;have e:=congrArg List.length (hexX (x:=x1) (z:=z1) (by have:=HX.out;omega) (by have:=HX.out;omega));rw [bs_length] at e;simp only [List.length_append,List.length_cons,hexL_len,List.length_take] at e ⊢;have:=Nat.min_le_right q x.length;(try simp only [List.length_nil] at e ⊢);omega)).mono ?_;rintro e wv ⟨rfl,hb1,hk⟩;have HBj1:=Lib.hid hb1;have HWj1:=Lib.hid ((HWj0.out.upd ue0).kept HBW.out hk);clear hb1 hk;go_wp2_with fail
           refine tkK hK (HWj1.out.cell) fun hHeld=>?_
           clear hK K
           refine wpAnyH_done (by kernel_rfl) ?_ _
           refine NoPanic.normal ?_
           exact hJ wv HBj1 HWj1
          intro wB HBj1 HWj1
          skip
          rw [hexX (x:=x1) (z:=z1) (by have:=HX.out;omega) (by have:=HX.out;omega)] at HBj1
          have HBn:Hid (BtK w0 b wB (dtxB d j ++ 32 :: hexL (x.take (q+1)))):=by
           show BtK _ _ _ _
           rw [HTK.out]
           have h:=HBj1.out
           obtain ⟨h0,h1,_,_⟩:=HX.out
           rw [h0,h1] at h
           simpa using h
          go_wp2_with fail
          exact ⟨⟨q+1,by go_num,by omega,HBn.out,HWj1.out⟩,by first | (simp [intOf];done) | (simp [intOf];omega)⟩
        · obtain rfl:q=xs.size:=by omega
          have HBn:Hid (BtK w0 b wr (dtxB d (j+1))):=by
           show BtK _ _ _ _
           rw [hst.out]
           have h:=HBi.out
           rw [List.take_of_length_le (by rw [bs_size HXB.out];exact Nat.le_refl _)] at h
           exact h
          clear HBi HB HB6 HW6
          go_wp2_with fail
          exact ⟨⟨j+1,by go_num,by omega,HBn.out,HWi.out⟩,by first | (simp [intOf];done) | (simp [intOf];omega)⟩
     · obtain rfl:j=n:=by omega
       have HF:Hid (BtK w0 b wr d.text):=by
        have h:=HB.out
        rw [HN.out,dtxB_all] at h
        exact h
       clear HB
       go_wp2_with fail
       refine (HF.out.text (by rw [DlI.text_eq];simp [wDeal])).mono ?_
       rintro e w6 ⟨rfl,hb1⟩
       have U6:=Lib.hid (U0.out.trans hb1.up)
       clear hb1
       go_wp2_with fail
       go_ret
       exact ⟨⟨d.text.toArray⟩,bs_mk _,by show d.text.length≤_;exact Nat.le_refl _,rfl,U6.out⟩
theorem fillH_hexL:∀ b:List UInt8,fillH (hexL b)=b
 | []=>rfl
 | b :: r=>by
  have hb:b.toNat<256:=b.toNat_lt
  obtain ⟨e1,_⟩:=dv_of (digH_hexD (b.toNat / 16) (by omega))
  obtain ⟨e2,_⟩:=dv_of (digH_hexD (b.toNat % 16) (by omega))
  rw [hexL,fillH,fillH_hexL r,e1,e2]
  congr 1
  apply UInt8.toNat_inj.1
  rw [UInt8.toNat_ofNat']
  omega
theorem fill_evenN {t:List UInt8} {m N:Nat} {c:UInt8} (hc:t[2 * m]? =some c) (hm:m<N):(fillH (t.take (2 * m)) ++ List.replicate (N - m) 0).set m (dv c)=fillH (t.take (2 * m+1)) ++ List.replicate (N - (m+1)) 0:=by
 have hl:=(List.getElem?_eq_some_iff.1 hc).1
 have e0:(t.take (2 * m)).length=2 * m:=by rw [List.length_take];omega
 have e1:t.take (2 * m+1)=t.take (2 * m) ++ [c]:=by rw [List.take_add_one,hc];rfl
 have e2:(fillH (t.take (2 * m))).length=m:=by rw [fillH_len,e0];omega
 rw [e1,fillH_app _ _ (by rw [e0];omega),List.set_append_right _ _ (by omega),e2,Nat.sub_self,show N - m=(N - (m+1))+1 by omega,List.replicate_succ,List.set_cons_zero,List.append_assoc]
 rfl
theorem fill_oddN {t:List UInt8} {m N:Nat} {a c:UInt8} (ha:t[2 * m]? =some a) (hc:t[2 * m+1]? =some c):(fillH (t.take (2 * m+1)) ++ List.replicate (N - (m+1)) 0)[m]? =some (dv a)∧(fillH (t.take (2 * m+1)) ++ List.replicate (N - (m+1)) 0).set m (UInt8.ofNat (16 * (dv a).toNat+(dv c).toNat))=fillH (t.take (2 * m+1+1)) ++ List.replicate (N - (m+1)) 0:=by
 have hl:=(List.getElem?_eq_some_iff.1 hc).1
 have e0:(t.take (2 * m)).length=2 * m:=by rw [List.length_take];omega
 have e1:t.take (2 * m+1)=t.take (2 * m) ++ [a]:=by rw [List.take_add_one,ha];rfl
 have e3:t.take (2 * m+1+1)=t.take (2 * m) ++ [a,c]:=by rw [List.take_add_one,hc,e1];simp
 have e2:(fillH (t.take (2 * m))).length=m:=by rw [fillH_len,e0];omega
 rw [e3,e1,fillH_app _ _ (by rw [e0];omega),fillH_app _ _ (by rw [e0];omega),List.append_assoc,List.append_assoc]
 refine ⟨?_,?_⟩
 · rw [List.getElem?_append_right (by omega),e2,Nat.sub_self]
   rfl
 · rw [List.set_append_right _ _ (by omega),e2,Nat.sub_self]
   rfl
def MkBys (l:List UInt8) (w:World) (e:Ending) (w':World):Prop:=∃ (r:ByteArray) (ok:Bool),Hid (∀ b,l=hexL b→ok=true∧bs r=b)∧r.size≤l.length∧e=.returned (.tuple #[.string r,.bool ok])∧Upd [] [] w w'
theorem no_hex {l:List UInt8} {c:UInt8} (hc:c∈l) (h:digH c=none):∀ b,l≠hexL b:=by
 intro b e
 obtain ⟨n,hn⟩:=digs16_hexL b c (by rw [← e];exact hc)
 rw [h] at hn
 cases hn
set_option maxHeartbeats 2000000 in
theorem dealBytes_any (s:ByteArray) (hs:s.size≤1000000000) (w:World):Calls Tryz.prog 247 #[.string s] w (MkBys (bs s) w):=by
 obtain ⟨N,hN⟩:∃ N,N=s.size / 2:=⟨_,rfl⟩
 have hmk:=make_bytes w N (by omega)
 obtain ⟨gB,hgB⟩:∃ g,w.heap.size=g:=⟨_,rfl⟩
 obtain ⟨w0,hw0⟩:∃ W,w.alloc (.cells (byteVals (List.replicate N 0)).toArray 5)=W:=⟨_,rfl⟩
 have R0:Hid (AB 5 w0 gB (List.replicate N 0)):=by
  show w0.heap[gB]? =_
  rw [← hgB,← hw0];exact heap_alloc_new _ _
 have U0:Hid (Upd [] [] w w0):=by rw [← hw0];exact (Upd.refl _ _).alloc _
 have hq1:(s.size:Int).tdiv 2=(N:Int):=by rw [Int.tdiv_eq_ediv_of_nonneg (by omega)];omega
 have hq2:(s.size:Int) / 2=(N:Int):=by omega
 have hN2:N≤500000000:=by omega
 have HN:Hid (2 * N≤s.size∧s.size≤2 * N+1):=by constructor <;> omega
 have HG:Hid (w.heap.size≤gB):=Nat.le_of_eq hgB
 rw [hw0,hgB] at hmk
 clear hN hs
 go_enter Tryz.func247,Tryz.ntmps247
 go_wp2_with fail
 clear hmk
 go_loopw [5,6,14] (fun _ _ i wr=>∃ k:Nat,i=.int .i64 (k:Int)∧k≤2 * N∧Hid (AB 5 wr gB (fillH ((bs s).take k) ++ List.replicate (N - (k+1) / 2) 0))∧Hid (digs16 ((bs s).take k))∧Hid (Upd [] [] w wr)) (fun _ _ i _=>2 * N - (intOf i).toNat)
 case atStart=>exact ⟨0,rfl,Nat.zero_le _,R0,fun c h=>by simp at h,U0.out⟩
 case round =>
  obtain ⟨k,rfl,hk,HA,HD,HU⟩:=hrel
  by_cases hlt:k<2 * N
  · have hks:k<s.size:=by have:=HN.out;omega
    have hc:=bs_get' s k hks
    have HC:=Lib.hid hc
    have i0:(0:Int)≤(k:Int):=by omega
    have i1:(k:Int)<(s.size:Int):=by omega
    have l1:(k:Int)<2 * (N:Int):=by omega
    clear hc
    cases hd:digH s[k] with
    | none =>
     have HNO:=Lib.hid (no_hex (List.mem_of_getElem? HC.out) hd)
     have hct:=idx_none hd
     clear hd
     go_wp2_with fail
     refine (hct wr).mono ?_
     rintro e w1 ⟨rfl,rfl⟩
     go_wp2_with fail
     go_ret2
     exact ⟨⟨#[]⟩,false,fun b e=>absurd e (HNO.out b),Nat.zero_le _,rfl,HU.out⟩
    | some n =>
     obtain ⟨hdv,hn16⟩:=dv_of hd
     have hct:=idx_some hd
     have HD2:Hid (digs16 ((bs s).take (k+1))):=by
      intro c hcm
      rw [List.take_add_one,HC.out] at hcm
      rcases List.mem_append.1 hcm with h | h
      · exact HD.out c h
      · rw [show c=s[k] by simpa using h]
        exact ⟨n,hd⟩
     have HDV:=Lib.hid hdv
     clear hd hdv
     by_cases hev:k % 2=0
     · obtain ⟨m,rfl⟩:∃ m,k=2 * m:=⟨k / 2,by omega⟩
       have hA2:=(HA.out.set m (dv s[2 * m])).upd (Upd.refl [] _)
       rw [show (2 * m+1) / 2=m by omega,fill_evenN HC.out (by omega)] at hA2
       have hcell:=HA.out.cell (j:=m) (b:=0) (by
        have hl:(fillH ((bs s).take (2 * m))).length=m:=by rw [fillH_len,List.length_take,bs_length];omega
        rw [List.getElem?_append_right (by omega),hl,Nat.sub_self,List.getElem?_replicate,if_pos (by omega)])
       have hfz:=HA.out.frozen m
       have e1:((2 * m:Nat):Int).tdiv 2=(m:Int):=by rw [Int.tdiv_eq_ediv_of_nonneg (by omega)];omega
       have e2:((2 * m:Nat):Int) / 2=(m:Int):=by omega
       have b0:(0:Int)≤(m:Int):=by omega
       have b1:(m:Int)<(N:Int):=by omega
       rw [show N - (m+1)=N - (2 * m+1+1) / 2 by omega] at hA2
       have HA2:=Lib.hid hA2
       clear hA2 hev
       go_wp2_with fail
       refine (hct wr).mono ?_
       rintro e w1 ⟨rfl,rfl⟩
       have vb:Go.bits .or .u8 0 (n:Int)=((dv s[2 * m]).toNat:Int):=by
        have h:=or_digit 0 (by omega) n hn16
        rw [HDV.out]
        simpa using h
       go_wp2_with fail
       exact ⟨⟨2 * m+1,by go_num,by omega,HA2.out,HD2.out,HU.out.setNew (p:=⟨_,_,none⟩) HG.out _⟩,by simp [intOf];omega⟩
     · obtain ⟨m,rfl⟩:∃ m,k=2 * m+1:=⟨k / 2,by omega⟩
       have ha0:=bs_get' s (2 * m) (by omega)
       obtain ⟨f1,f2⟩:=fill_oddN (N:=N) ha0 HC.out
       obtain ⟨o,ho⟩:∃ o,digH (s[2 * m]'(by omega))=some o:=HD.out (s[2 * m]'(by omega)) (by
        refine List.mem_of_getElem? (i:=2 * m) ?_
        rw [List.getElem?_take_of_lt (by omega)]
        exact ha0)
       obtain ⟨hov,ho16⟩:=dv_of ho
       have hA:=HA.out
       rw [show (2 * m+1+1) / 2=m+1 by omega] at hA
       have hcell:=hA.cell f1
       rw [hov] at hcell
       have hA2:=hA.set m (UInt8.ofNat (16 * (dv (s[2 * m]'(by omega))).toNat+(dv s[2 * m+1]).toNat))
       rw [f2,hov,HDV.out] at hA2
       have hfz:=HA.out.frozen m
       have e1:((2 * m+1:Nat):Int).tdiv 2=(m:Int):=by rw [Int.tdiv_eq_ediv_of_nonneg (by omega)];omega
       have e2:((2 * m+1:Nat):Int) / 2=(m:Int):=by omega
       have e3:(2 * (m:Int)+1) / 2=(m:Int):=by omega
       have b0:(0:Int)≤(m:Int):=by omega
       have b1:(m:Int)<(N:Int):=by omega
       rw [show N - (m+1)=N - (2 * m+1+1+1) / 2 by omega] at hA2
       have HA2:=Lib.hid hA2
       clear hA2 hA hev f1 f2 ha0 ho hov HA
       go_wp2_with fail
       refine (hct wr).mono ?_
       rintro e w1 ⟨rfl,rfl⟩
       have vb:Go.bits .or .u8 ((o:Int) * 16) (n:Int)=((UInt8.ofNat (16 * o+n)).toNat:Int):=by
        have h:=or_digit o ho16 n hn16
        rw [show ((16 * o:Nat):Int)=(o:Int) * 16 by omega] at h
        rw [h,UInt8.toNat_ofNat',Nat.mod_eq_of_lt (by omega)]
       go_wp2_with fail
       exact ⟨⟨2 * m+1+1,by go_num,by omega,HA2.out,HD2.out,HU.out.setNew (p:=⟨_,_,none⟩) HG.out _⟩,by simp [intOf];omega⟩
  · obtain rfl:k=2 * N:=by omega
    have hA:=HA.out
    rw [show N - (2 * N+1) / 2=0 by omega,List.replicate_zero,List.append_nil] at hA
    obtain ⟨r,hr⟩:∃ r,fillH ((bs s).take (2 * N))=r:=⟨_,rfl⟩
    rw [hr] at hA
    have hrl:r.length=N:=by rw [← hr,fillH_len,List.length_take,bs_length];have:=HN.out;omega
    obtain ⟨z,hz⟩:∃ z:ByteArray,bs z=r:=⟨⟨r.toArray⟩,bs_mk _⟩
    have hcv:=hA.text z hz N
    rw [hrl] at hcv
    have HR:=Lib.hid hr
    have HZ:=Lib.hid hz
    have HRL:=Lib.hid hrl
    clear hr hz hrl hA HA hlt hk
    by_cases hev:s.size % 2=0
    · have e1:(s.size:Int).tmod 2=0:=by rw [Int.tmod_eq_emod_of_nonneg (by omega)];omega
      have HEV:=Lib.hid hev
      clear hev
      go_wp2_with fail
      go_ret2
      refine ⟨z,true,fun b hb=>⟨rfl,?_⟩,?_,rfl,HU.out⟩
      · rw [HZ.out,← HR.out,List.take_of_length_le (by rw [bs_length];have:=HN.out;have:=HEV.out;omega),hb,fillH_hexL]
      · rw [← bs_length,HZ.out,HRL.out,bs_length];have:=HN.out;omega
    · have e1:(s.size:Int).tmod 2=1:=by rw [Int.tmod_eq_emod_of_nonneg (by omega)];omega
      have HEV:=Lib.hid hev
      clear hev
      go_wp2_with fail
      go_ret2
      refine ⟨z,false,fun b hb=>?_,?_,rfl,HU.out⟩
      · have h:=congrArg List.length hb
        rw [bs_length,hexL_len] at h
        exact absurd (show s.size % 2=0 by omega) HEV.out
      · rw [← bs_length,HZ.out,HRL.out,bs_length];have:=HN.out;omega
end Go.Proofs.YtmjlkkbbnkanpaaGreatDoor
