/- A builder beside which other blocks keep and what follows. -/
import Derived.Test.YtmjlkkbbnkanpaaGreatDoorHAA
import Derived.Test.YtmjlkkbbnkanpaaGreatDoorHBB
import Derived.Test.YtmjlkkbbnkanpaaGreatDoorHAE
import Derived.Test.YtmjlkkbbnkanpaaGreatDoorHAN
import Derived.Shelf.Strings.BuilderK
import Derived.Test.YtmjlkkbbnkanpaaGreatDoorHAL
import Derived.Test.YtmjlkkbbnkanpaaGreatDoorHAZ
namespace Go.Proofs.YtmjlkkbbnkanpaaGreatDoor
open Go.RowKit
set_option maxRecDepth 100000
theorem builderF_upd {T e:TypeId} {B b:Nat} {p:Value} {l:List Value} {w w':World} (h:Lib.BuilderAtF T e B b p l w) (u:Upd [] [] w w'):Lib.BuilderAtF T e B b p l w':=by
 obtain ⟨h1,v,hb,ho,hn⟩:=h
 refine ⟨h1,v,row_updH hb u,⟨ho.1,?_⟩,hn⟩
 rcases ho.2 with h2 | ⟨g,cap,cur,fz,hv,hg,hh,r⟩
 · exact .inl h2
 · exact .inr ⟨g,cap,cur,fz,hv,hg,row_updH hh u,r⟩
structure BtK (W0:World) (b:Nat) (wi:World) (acc:List UInt8):Prop where
 bd:Lib.IsBuilderF 150 5 W0.heap.size b (Lib.byteCells acc) wi
 up:Upd [] [] W0 wi
theorem BtK.upd {W0 wi wj:World} {b:Nat} {acc:List UInt8} (h:BtK W0 b wi acc) (u:Upd [] [] wi wj):BtK W0 b wj acc :=
 ⟨h.bd.imp (fun k=>builderF_upd k u) (fun k=>builderF_upd k u),h.up.trans u⟩
theorem BtK.start (W0:World):BtK W0 W0.heap.size (W0.alloc (.cells #[.pointer none,.slice none 0 0] 150)) []:=⟨Lib.IsBuilderF.of (Lib.fresh_isBuilder _ _ W0),(Upd.refl _ _).alloc _⟩
theorem BtK.write {W0 wi:World} {b:Nat} {acc:List UInt8} (h:BtK W0 b wi acc) (s:ByteArray) (hl:acc.length+s.size≤140737488355328) :
 Calls Tryz.prog 116 #[.pointer (some ⟨b,0,none⟩),.string s] wi (fun e w'=>e=.returned (.tuple #[.int .i64 s.size,.nilIface])∧BtK W0 b w' (acc ++ bs s)∧Lib.OthersKept 5 (some b) wi w'):=by
 have hlen:(Lib.byteCells acc).length=acc.length:=by simp [Lib.byteCells]
 refine (Any.Builder_WriteString_k { Tryz.lays156 with } Tryz.Builder_Extra_156 W0.heap.size b (Lib.byteCells acc) s wi h.bd (by rw [hlen];exact hl) h.up.size).mono ?_
 rintro e w' ⟨rfl,hb,hu,hk⟩
 have e2:Lib.byteCells acc ++ Lib.strCells s=Lib.byteCells (acc ++ bs s):=by simp [Lib.byteCells,Lib.strCells,bs]
 rw [e2] at hb
 exact ⟨rfl,⟨.inr hb,below_step h.up hu⟩,hk⟩
theorem BtK.text {W0 wi:World} {b:Nat} {acc:List UInt8} (h:BtK W0 b wi acc) (h0:acc≠[]) :
 Calls Tryz.prog 117 #[.pointer (some ⟨b,0,none⟩)] wi (fun e w'=>e=.returned (.string ⟨acc.toArray⟩)∧BtK W0 b w' acc):=by
 refine (Any.Builder_String_k { Tryz.lays156 with } Tryz.Builder_Extra_156 W0.heap.size b acc wi h.bd h0).mono ?_
 rintro e w' ⟨rfl,hb,hu,_⟩
 exact ⟨rfl,hb,below_step h.up hu⟩
def dtxA (d:DlI) (k:Nat):List UInt8:=wDeal ++ dlTail (Lib.itoa (d.coms.length:Int) :: (d.coms.take k).map Lib.itoa)
def dtxB (d:DlI) (k:Nat):List UInt8:=dtxA d d.coms.length ++ dlTail (Lib.itoa d.point :: (d.boxes.take k).map hexL)
theorem dtxA_succ {d:DlI} {k:Nat} {x:Int} (h:d.coms[k]? =some x):dtxA d (k+1)=dtxA d k ++ 32 :: Lib.itoa x:=by
 unfold dtxA
 rw [List.take_add_one,h]
 simp [dlTail]
theorem dtxB_succ {d:DlI} {k:Nat} {x:List UInt8} (h:d.boxes[k]? =some x):dtxB d (k+1)=dtxB d k ++ 32 :: hexL x:=by
 unfold dtxB
 rw [List.take_add_one,h]
 simp [dlTail]
theorem dtxB_all (d:DlI):dtxB d d.boxes.length=d.text:=by
 rw [DlI.text_eq]
 unfold dtxB dtxA
 rw [List.take_length,List.take_length]
 simp [dlTail]
theorem tail_len {α:Type} (f:α→List UInt8) (m:Nat):∀ l:List α,(∀ x∈l,(f x).length≤m)→(dlTail (l.map f)).length≤(m+1) * l.length
 | [],_=>by simp [dlTail]
 | x :: r,h=>by
  have h1:=tail_len f m r (fun y hy=>h y (by simp [hy]))
  have h2:=h x (by simp)
  have e:dlTail ((x :: r).map f)=32 :: (f x ++ dlTail (r.map f)):=by simp [dlTail]
  rw [e,List.length_cons,List.length_append,List.length_cons,Nat.mul_add]
  omega
def DlI.fit (d:DlI):Prop:=(∀ c∈d.coms,i64in c)∧i64in d.point∧d.coms.length≤1000000∧d.boxes.length≤1000000∧∀ b∈d.boxes,b.length≤1000000
theorem dtxA_len {d:DlI} (h:d.fit) {k:Nat} (hk:k≤d.coms.length):(dtxA d k).length≤30000000:=by
 have h1:=tail_len Lib.itoa 20 (d.coms.take k) (fun x hx=>itoa_len _ (h.1 x (List.mem_of_mem_take hx)))
 have h2:=itoa_len (d.coms.length:Int) (by have:=h.2.2.1;unfold i64in;omega)
 have h3:(d.coms.take k).length≤1000000:=by have:=h.2.2.1;simp;omega
 have e:dtxA d k=wDeal ++ (32 :: (Lib.itoa (d.coms.length:Int) ++ dlTail ((d.coms.take k).map Lib.itoa))):=by simp [dtxA,dlTail]
 have hw:wDeal.length=4:=rfl
 rw [e,List.length_append,List.length_cons,List.length_append,hw]
 omega
theorem dtxB_len {d:DlI} (h:d.fit) {k:Nat} (hk:k≤d.boxes.length):(dtxB d k).length≤3000000000000:=by
 have h0:=dtxA_len h (Nat.le_refl d.coms.length)
 have h1:=tail_len hexL 2000000 (d.boxes.take k) (fun x hx=>by have:=h.2.2.2.2 x (List.mem_of_mem_take hx);rw [hexL_len];omega)
 have h2:=itoa_len d.point h.2.1
 have h3:(d.boxes.take k).length≤1000000:=by have:=h.2.2.2.1;simp;omega
 have e:dtxB d k=dtxA d d.coms.length ++ (32 :: (Lib.itoa d.point ++ dlTail ((d.boxes.take k).map hexL))):=by simp [dtxB,dlTail]
 rw [e,List.length_append,List.length_cons,List.length_append]
 omega
theorem hexX {x z:Nat} (hx:x<16) (hz:z=x+1):bs ((⟨#[48,49,50,51,52,53,54,55,56,57,97,98,99,100,101,102]⟩:ByteArray).extract x z)=[hexD x]:=by
 subst hz
 have:∀ x:Fin 16,bs ((⟨#[48,49,50,51,52,53,54,55,56,57,97,98,99,100,101,102]⟩:ByteArray).extract x.val (x.val+1))=[hexD x.val]:=by decide
 exact this ⟨x,hx⟩
theorem hexL_take {x:List UInt8} {q:Nat} {c:UInt8} (h:x[q]? =some c):hexL (x.take (q+1))=hexL (x.take q) ++ [hexD (c.toNat / 16),hexD (c.toNat % 16)]:=by
 rw [List.take_add_one,h]
 induction x.take q with
 | nil=>rfl
 | cons a r ih=>simp only [List.cons_append,hexL];rw [ih]
theorem fillH_hexL:∀ b:List UInt8,fillH (hexL b)=b
 | []=>rfl
 | b :: r=>by
  have hb:b.toNat<256:=b.toNat_lt
  obtain ⟨e1,_⟩:=dv_of (digH_hexD (b.toNat / 16) (by omega))
  obtain ⟨e2,_⟩:=dv_of (digH_hexD (b.toNat % 16) (by omega))
  rw [hexL,fillH,fillH_hexL r,e1,e2]
  congr 1
  apply UInt8.toNat_inj.1
  rw [UInt8.toNat_ofNat']
  omega
theorem fill_evenN {t:List UInt8} {m N:Nat} {c:UInt8} (hc:t[2 * m]? =some c) (hm:m<N):(fillH (t.take (2 * m)) ++ List.replicate (N - m) 0).set m (dv c)=fillH (t.take (2 * m+1)) ++ List.replicate (N - (m+1)) 0:=by
 have hl:=(List.getElem?_eq_some_iff.1 hc).1
 have e0:(t.take (2 * m)).length=2 * m:=by rw [List.length_take];omega
 have e1:t.take (2 * m+1)=t.take (2 * m) ++ [c]:=by rw [List.take_add_one,hc];rfl
 have e2:(fillH (t.take (2 * m))).length=m:=by rw [fillH_len,e0];omega
 rw [e1,fillH_app _ _ (by rw [e0];omega),List.set_append_right _ _ (by omega),e2,Nat.sub_self,show N - m=(N - (m+1))+1 by omega,List.replicate_succ,List.set_cons_zero,List.append_assoc]
 rfl
theorem fill_oddN {t:List UInt8} {m N:Nat} {a c:UInt8} (ha:t[2 * m]? =some a) (hc:t[2 * m+1]? =some c):(fillH (t.take (2 * m+1)) ++ List.replicate (N - (m+1)) 0)[m]? =some (dv a)∧(fillH (t.take (2 * m+1)) ++ List.replicate (N - (m+1)) 0).set m (UInt8.ofNat (16 * (dv a).toNat+(dv c).toNat))=fillH (t.take (2 * m+1+1)) ++ List.replicate (N - (m+1)) 0:=by
 have hl:=(List.getElem?_eq_some_iff.1 hc).1
 have e0:(t.take (2 * m)).length=2 * m:=by rw [List.length_take];omega
 have e1:t.take (2 * m+1)=t.take (2 * m) ++ [a]:=by rw [List.take_add_one,ha];rfl
 have e3:t.take (2 * m+1+1)=t.take (2 * m) ++ [a,c]:=by rw [List.take_add_one,hc,e1];simp
 have e2:(fillH (t.take (2 * m))).length=m:=by rw [fillH_len,e0];omega
 rw [e3,e1,fillH_app _ _ (by rw [e0];omega),fillH_app _ _ (by rw [e0];omega),List.append_assoc,List.append_assoc]
 refine ⟨?_,?_⟩
 · rw [List.getElem?_append_right (by omega),e2,Nat.sub_self]
   rfl
 · rw [List.set_append_right _ _ (by omega),e2,Nat.sub_self]
   rfl
def MkBys (l:List UInt8) (w:World) (e:Ending) (w':World):Prop:=∃ (r:ByteArray) (ok:Bool),Hid (∀ b,l=hexL b→ok=true∧bs r=b)∧r.size≤l.length∧e=.returned (.tuple #[.string r,.bool ok])∧Upd [] [] w w'
theorem no_hex {l:List UInt8} {c:UInt8} (hc:c∈l) (h:digH c=none):∀ b,l≠hexL b:=by
 intro b e
 obtain ⟨n,hn⟩:=digs16_hexL b c (by rw [← e];exact hc)
 rw [h] at hn
 cases hn
set_option maxHeartbeats 2000000 in
theorem dealBytes_any (s:ByteArray) (hs:s.size≤1000000000) (w:World):Calls Tryz.prog 247 #[.string s] w (MkBys (bs s) w):=by
 obtain ⟨N,hN⟩:∃ N,N=s.size / 2:=⟨_,rfl⟩
 have hmk:=make_bytes w N (by omega)
 obtain ⟨gB,hgB⟩:∃ g,w.heap.size=g:=⟨_,rfl⟩
 obtain ⟨w0,hw0⟩:∃ W,w.alloc (.cells (byteVals (List.replicate N 0)).toArray 5)=W:=⟨_,rfl⟩
 have R0:Hid (AB 5 w0 gB (List.replicate N 0)):=by
  show w0.heap[gB]? =_
  rw [← hgB,← hw0];exact heap_alloc_new _ _
 have U0:Hid (Upd [] [] w w0):=by rw [← hw0];exact (Upd.refl _ _).alloc _
 have hq1:(s.size:Int).tdiv 2=(N:Int):=by rw [Int.tdiv_eq_ediv_of_nonneg (by omega)];omega
 have hq2:(s.size:Int) / 2=(N:Int):=by omega
 have hN2:N≤500000000:=by omega
 have HN:Hid (2 * N≤s.size∧s.size≤2 * N+1):=by constructor <;> omega
 have HG:Hid (w.heap.size≤gB):=Nat.le_of_eq hgB
 rw [hw0,hgB] at hmk
 clear hN hs
 go_enter Tryz.func247,Tryz.ntmps247
 go_wp2_with fail
 clear hmk
 go_loopw [5,6,14] (fun _ _ i wr=>∃ k:Nat,i=.int .i64 (k:Int)∧k≤2 * N∧Hid (AB 5 wr gB (fillH ((bs s).take k) ++ List.replicate (N - (k+1) / 2) 0))∧Hid (digs16 ((bs s).take k))∧Hid (Upd [] [] w wr)) (fun _ _ i _=>2 * N - (intOf i).toNat)
 case atStart=>exact ⟨0,rfl,Nat.zero_le _,R0,fun c h=>by simp at h,U0.out⟩
 case round =>
  obtain ⟨k,rfl,hk,HA,HD,HU⟩:=hrel
  by_cases hlt:k<2 * N
  · have hks:k<s.size:=by have:=HN.out;omega
    have hc:=bs_get' s k hks
    have HC:=Lib.hid hc
    have i0:(0:Int)≤(k:Int):=by omega
    have i1:(k:Int)<(s.size:Int):=by omega
    have l1:(k:Int)<2 * (N:Int):=by omega
    clear hc
    cases hd:digH s[k] with
    | none =>
     have HNO:=Lib.hid (no_hex (List.mem_of_getElem? HC.out) hd)
     have hct:=idx_none hd
     clear hd
     go_wp2_with fail
     refine (hct wr).mono ?_
     rintro e w1 ⟨rfl,rfl⟩
     go_wp2_with fail
     go_ret2
     exact ⟨⟨#[]⟩,false,fun b e=>absurd e (HNO.out b),Nat.zero_le _,rfl,HU.out⟩
    | some n =>
     obtain ⟨hdv,hn16⟩:=dv_of hd
     have hct:=idx_some hd
     have HD2:Hid (digs16 ((bs s).take (k+1))):=by
      intro c hcm
      rw [List.take_add_one,HC.out] at hcm
      rcases List.mem_append.1 hcm with h | h
      · exact HD.out c h
      · rw [show c=s[k] by simpa using h]
        exact ⟨n,hd⟩
     have HDV:=Lib.hid hdv
     clear hd hdv
     by_cases hev:k % 2=0
     · obtain ⟨m,rfl⟩:∃ m,k=2 * m:=⟨k / 2,by omega⟩
       have hA2:=(HA.out.set m (dv s[2 * m])).upd (Upd.refl [] _)
       rw [show (2 * m+1) / 2=m by omega,fill_evenN HC.out (by omega)] at hA2
       have hcell:=HA.out.cell (j:=m) (b:=0) (by
        have hl:(fillH ((bs s).take (2 * m))).length=m:=by rw [fillH_len,List.length_take,bs_length];omega
        rw [List.getElem?_append_right (by omega),hl,Nat.sub_self,List.getElem?_replicate,if_pos (by omega)])
       have hfz:=HA.out.frozen m
       have e1:((2 * m:Nat):Int).tdiv 2=(m:Int):=by rw [Int.tdiv_eq_ediv_of_nonneg (by omega)];omega
       have e2:((2 * m:Nat):Int) / 2=(m:Int):=by omega
       have b0:(0:Int)≤(m:Int):=by omega
       have b1:(m:Int)<(N:Int):=by omega
       rw [show N - (m+1)=N - (2 * m+1+1) / 2 by omega] at hA2
       have HA2:=Lib.hid hA2
       clear hA2 hev
       go_wp2_with fail
       refine (hct wr).mono ?_
       rintro e w1 ⟨rfl,rfl⟩
       have vb:Go.bits .or .u8 0 (n:Int)=((dv s[2 * m]).toNat:Int):=by
        have h:=or_digit 0 (by omega) n hn16
        rw [HDV.out]
        simpa using h
       go_wp2_with fail
       exact ⟨⟨2 * m+1,by go_num,by omega,HA2.out,HD2.out,HU.out.setNew (p:=⟨_,_,none⟩) HG.out _⟩,by simp [intOf];omega⟩
     · obtain ⟨m,rfl⟩:∃ m,k=2 * m+1:=⟨k / 2,by omega⟩
       have ha0:=bs_get' s (2 * m) (by omega)
       obtain ⟨f1,f2⟩:=fill_oddN (N:=N) ha0 HC.out
       obtain ⟨o,ho⟩:∃ o,digH (s[2 * m]'(by omega))=some o:=HD.out (s[2 * m]'(by omega)) (by
        refine List.mem_of_getElem? (i:=2 * m) ?_
        rw [List.getElem?_take_of_lt (by omega)]
        exact ha0)
       obtain ⟨hov,ho16⟩:=dv_of ho
       have hA:=HA.out
       rw [show (2 * m+1+1) / 2=m+1 by omega] at hA
       have hcell:=hA.cell f1
       rw [hov] at hcell
       have hA2:=hA.set m (UInt8.ofNat (16 * (dv (s[2 * m]'(by omega))).toNat+(dv s[2 * m+1]).toNat))
       rw [f2,hov,HDV.out] at hA2
       have hfz:=HA.out.frozen m
       have e1:((2 * m+1:Nat):Int).tdiv 2=(m:Int):=by rw [Int.tdiv_eq_ediv_of_nonneg (by omega)];omega
       have e2:((2 * m+1:Nat):Int) / 2=(m:Int):=by omega
       have e3:(2 * (m:Int)+1) / 2=(m:Int):=by omega
       have b0:(0:Int)≤(m:Int):=by omega
       have b1:(m:Int)<(N:Int):=by omega
       rw [show N - (m+1)=N - (2 * m+1+1+1) / 2 by omega] at hA2
       have HA2:=Lib.hid hA2
       clear hA2 hA hev f1 f2 ha0 ho hov HA
       go_wp2_with fail
       refine (hct wr).mono ?_
       rintro e w1 ⟨rfl,rfl⟩
       have vb:Go.bits .or .u8 ((o:Int) * 16) (n:Int)=((UInt8.ofNat (16 * o+n)).toNat:Int):=by
        have h:=or_digit o ho16 n hn16
        rw [show ((16 * o:Nat):Int)=(o:Int) * 16 by omega] at h
        rw [h,UInt8.toNat_ofNat',Nat.mod_eq_of_lt (by omega)]
       go_wp2_with fail
       exact ⟨⟨2 * m+1+1,by go_num,by omega,HA2.out,HD2.out,HU.out.setNew (p:=⟨_,_,none⟩) HG.out _⟩,by simp [intOf];omega⟩
  · obtain rfl:k=2 * N:=by omega
    have hA:=HA.out
    rw [show N - (2 * N+1) / 2=0 by omega,List.replicate_zero,List.append_nil] at hA
    obtain ⟨r,hr⟩:∃ r,fillH ((bs s).take (2 * N))=r:=⟨_,rfl⟩
    rw [hr] at hA
    have hrl:r.length=N:=by rw [← hr,fillH_len,List.length_take,bs_length];have:=HN.out;omega
    obtain ⟨z,hz⟩:∃ z:ByteArray,bs z=r:=⟨⟨r.toArray⟩,bs_mk _⟩
    have hcv:=hA.text z hz N
    rw [hrl] at hcv
    have HR:=Lib.hid hr
    have HZ:=Lib.hid hz
    have HRL:=Lib.hid hrl
    clear hr hz hrl hA HA hlt hk
    by_cases hev:s.size % 2=0
    · have e1:(s.size:Int).tmod 2=0:=by rw [Int.tmod_eq_emod_of_nonneg (by omega)];omega
      have HEV:=Lib.hid hev
      clear hev
      go_wp2_with fail
      go_ret2
      refine ⟨z,true,fun b hb=>⟨rfl,?_⟩,?_,rfl,HU.out⟩
      · rw [HZ.out,← HR.out,List.take_of_length_le (by rw [bs_length];have:=HN.out;have:=HEV.out;omega),hb,fillH_hexL]
      · rw [← bs_length,HZ.out,HRL.out,bs_length];have:=HN.out;omega
    · have e1:(s.size:Int).tmod 2=1:=by rw [Int.tmod_eq_emod_of_nonneg (by omega)];omega
      have HEV:=Lib.hid hev
      clear hev
      go_wp2_with fail
      go_ret2
      refine ⟨z,false,fun b hb=>?_,?_,rfl,HU.out⟩
      · have h:=congrArg List.length hb
        rw [bs_length,hexL_len] at h
        exact absurd (show s.size % 2=0 by omega) HEV.out
      · rw [← bs_length,HZ.out,HRL.out,bs_length];have:=HN.out;omega
end Go.Proofs.YtmjlkkbbnkanpaaGreatDoor
