/- sortesref01: number, of, Quo, Text and what follows. -/
import Derived.Test.YtmjlkkbbnkanpaaGreatDoorHAG
import Derived.Test.YtmjlkkbbnkanpaaGreatDoorHAD
import Derived.RowKit
import Derived.Test.YtmjlkkbbnkanpaaGreatDoorRows
import Derived.Test.YtmjlkkbbnkanpaaGreatDoorHAA
import Derived.Test.YtmjlkkbbnkanpaaGreatDoorHAC
import Derived.Lib.Join
namespace Go.Proofs.YtmjlkkbbnkanpaaGreatDoor
open Go.RowKit
set_option maxRecDepth 100000
theorem append_three (wr:World) (v:Value) (k:Nat) (xs:List Value) (a b c:UInt8) (hown:wr.ownsRow 0 5 1 v k xs) (hk:k<1099511627776) :
 ∃ v' w',(Builtin.append_ #[126,126] 126 #[v,.slice (some ⟨wr.heap.size,0,none⟩) 3 3]).run Tryz.prog (wr.alloc (.cells #[.int .u8 (a.toNat:Int),.int .u8 (b.toNat:Int),.int .u8 (c.toNat:Int)] 5))=.ok v' w'∧w'.ownsRow 0 5 1 v' (k+3) (xs ++ [byteV a,byteV b,byteV c])∧Upd (foot v) (foot v') wr w':=by
 have hrow:(wr.alloc (.cells #[.int .u8 (a.toNat:Int),.int .u8 (b.toNat:Int),.int .u8 (c.toNat:Int)] 5)).ownsRow 0 5 1 v k xs:=row_same hown (fun j hj=>Below.heap_alloc _ _ _ (row_foot_lt hown j hj))
 have hw1:(wr.alloc (.cells #[.int .u8 (a.toNat:Int),.int .u8 (b.toNat:Int),.int .u8 (c.toNat:Int)] 5)).heap[wr.heap.size]? =some (.cells #[.int .u8 (a.toNat:Int),.int .u8 (b.toNat:Int),.int .u8 (c.toNat:Int)] 5 (0,0)):=heap_alloc_new _ _
 obtain ⟨iu,u1,u2,u3',u4⟩:=u8_parts
 obtain ⟨v',w',hrun,hown',hup'⟩:=append_block (P:=Tryz.prog) (wr.alloc (.cells #[.int .u8 (a.toNat:Int),.int .u8 (b.toNat:Int),.int .u8 (c.toNat:Int)] 5)) 126 126 5 iu (.int .u8 0) 1 1 Tryz.underlying126 u1 u2 u3' u4 rfl (by omega) v k _ hrow ⟨wr.heap.size,0,none⟩ 3 3 [byteV a,byteV b,byteV c] rfl (by
  intro j u hj
  have hj3:j<3:=by
   have:=(List.getElem?_eq_some_iff.1 hj).1
   simpa using this
  have e:(⟨wr.heap.size,0,none⟩:Addr).add j=⟨wr.heap.size,j,none⟩:=by unfold Addr.add;split <;> simp_all
  rw [e,cell_of_row _ _ _ _ _ _ hw1]
  match j,hj3,hj with
  | 0,_,hj=>exact hj
  | 1,_,hj=>exact hj
  | 2,_,hj=>exact hj) (byteVals_one [a,b,c]) (by omega) (by simp only [maxLen];omega)
 exact ⟨v',w',hrun,hown',((Upd.refl _ _).alloc _).trans hup'⟩
theorem Sl.at {w:World} {g n cap:Nat} {l:List Nat} (h:Sl w (.slice (some ⟨g,0,none⟩) n cap) l) {k d:Nat} (hk:l[k]? =some d):w.cell? ⟨g,k,none⟩=some (.int .i64 (d:Int)):=by
 obtain ⟨b,e,hc⟩:=h.get hk
 simp only [Option.some.injEq,Addr.mk.injEq,and_true] at e
 subst e
 exact hc
theorem bigByte_of (d s:Nat):IntKind.u8.wrap ((d:Int) / s)=((UInt8.ofNat (d / s)).toNat:Int):=by
 rw [IntKind.wrap_u8,UInt8.toNat_ofNat']
 omega
set_option maxHeartbeats 2000000 in
theorem number_big (u:Value) (l:List Nat) (w:World) (hu:Sl w u l) (hl:okL l) (hn:l.length≤100000000):Calls Tryz.prog 73 #[u] w (MkNat (valL l) w):=by
 obtain ⟨ao,cap,rfl,hu1,hu2⟩:=hu.form
 obtain ⟨n,hnn⟩:∃ n,n=l.length:=⟨_,rfl⟩
 rw [← hnn] at hu1 hu hn
 rw [← hnn]
 have HU:=Lib.hid hu
 have HN:=Lib.hid hnn
 clear hu hnn
 go_enter Tryz.func73,Tryz.ntmps73
 go_wp2_with fail
 go_loopw [3,4] (fun t i wr=>∃ (z:Int) (k q:Nat) (bl:List UInt8),i=.int .i64 z∧z+1=(k:Int)∧k≤n∧q≤300000000∧Hid (natB bl=valL (l.drop k))∧Hid (q=bl.length∧q=3 * (n - k))∧Hid (wr.ownsRow 0 5 1 t q (byteVals bl))∧Hid (Upd [] (foot t) w wr)) (fun _ i _=>(intOf i+1).toNat)
 case atStart=>exact ⟨(n:Int) - 1,n,0,[],rfl,by omega,Nat.le_refl _,Nat.zero_le _,by show _=_;rw [List.drop_of_length_le (by rw [HN.out];omega)];rfl,⟨rfl,by omega⟩,⟨by simp [byteVals],.inl ⟨rfl,rfl⟩⟩,Upd.refl _ _⟩
 case round =>
  obtain ⟨z,k,q,bl,rfl,hz,hk,hq,HB,HQ,HR,HUP⟩:=hrel
  have hup0:Upd [] [] w wr:=HUP.out.mono (fun _ h=>h) (fun _ h=>absurd h (by simp))
  by_cases h0:0<k
  · obtain ⟨j,rfl⟩:∃ j,k=j+1:=⟨k - 1,by omega⟩
    obtain rfl:z=(j:Int):=by omega
    have hjl:j<l.length:=by rw [← HN.out];omega
    obtain ⟨d,hd⟩:∃ d,l[j]? =some d:=⟨_,List.getElem?_eq_getElem hjl⟩
    have hd2:d<16777216:=hl d (List.mem_of_getElem? hd)
    obtain ⟨g1,rfl,c1⟩:=(HU.out.upd hup0).get hd
    have hst:natB (bl ++ [UInt8.ofNat (d / 65536),UInt8.ofNat (d / 256),UInt8.ofNat d])=valL (l.drop j):=by
     rw [natB_three _ _ hd2,HB.out,valL_drop_step hd]
     omega
    have e2:IntKind.u8.wrap ((d:Int) / 65536)=((UInt8.ofNat (d / 65536)).toNat:Int):=bigByte_of d 65536
    have e1:IntKind.u8.wrap ((d:Int) / 256)=((UInt8.ofNat (d / 256)).toNat:Int):=bigByte_of d 256
    have e0:IntKind.u8.wrap (d:Int)=((UInt8.ofNat d).toNat:Int):=by rw [IntKind.wrap_u8,UInt8.toNat_ofNat'];omega
    generalize UInt8.ofNat (d / 65536)=b2 at *
    generalize UInt8.ofNat (d / 256)=b1 at *
    generalize UInt8.ofNat d=b0 at *
    obtain ⟨v',w',hrun,hown',hup'⟩:=append_three wr.drew _ q _ b2 b1 b0 (row_same HR.out (fun _ _=>rfl)) (by omega)
    have HRUN:=Lib.hid hrun
    have HOWN:=Lib.hid hown'
    have HUPP:=Lib.hid (HUP.out.drew.trans hup')
    have c3:=(HU.out.upd (HUPP.out.mono (fun _ h=>h) (fun _ h=>absurd h (by simp)))).at hd
    have HST:=Lib.hid hst
    have hq2:=HQ.out
    have hq3:q+3≤300000000:=by omega
    have hq4:q+3=(bl ++ [b2,b1,b0]).length∧q+3=3 * (n - j):=⟨by rw [List.length_append,← hq2.1];rfl,by omega⟩
    have HQQ:=Lib.hid hq4
    clear hjl hd hst hrun hown' hup' HUP HR HQ hq2 hq4 hz HB
    go_wp2_with fail
    have p0:(0:Int)≤(j:Int):=by omega
    have p1:(j:Int)<(n:Int):=by omega
    have c2:wr.drew.cell? ⟨g1,j,none⟩=some (.int .i64 (d:Int)):=c1
    go_region_held3 (fun wp=>wp.cell? ⟨g1,j,none⟩=some (.int .i64 (d:Int))) (first | exact c2 | assumption | go_keep)
     (first | (refine step_append_run _ rfl (.tmp 12) (.tmp 30) 126 126 rfl _ _ _ _ rfl rfl HRUN.out ?_))
    go_wp2_with fail
    exact ⟨⟨(j:Int) - 1,j,q+3,bl ++ [b2,b1,b0],rfl,by omega,by omega,hq3,HST.out,HQQ.out,by show World.ownsRow _ _ _ _ _ _ _;rw [byteVals_append];exact HOWN.out,HUPP.out⟩,by first | (simp [intOf];done) | (simp [intOf];omega)⟩
  · obtain rfl:k=0:=by omega
    obtain rfl:z=-1:=by omega
    have hown:=HR.out
    rw [HQ.out.1] at hown
    have hcv:=conv_row (P:=Tryz.prog) wr 126 40 5 Tryz.underlying126 Tryz.underlying5 Tryz.underlying40 u3 bl hown
    have HCV:=Lib.hid hcv
    have hbl:bl.length≤300000000:=by rw [← HQ.out.1];exact hq
    clear hown hcv HR hz h0
    go_wp2_with fail
    rw [HCV.out]
    go_wp2_with fail
    refine (canon_any _ wr (by show bl.length≤_;omega)).mono ?_
    rintro e w' ⟨r,HR,rfl,rfl⟩
    go_wp2_with fail
    go_ret
    refine ⟨r,?_,rfl,hup0⟩
    show _=_
    rw [HR.out,bs_mk,HB.out,List.drop_zero]
set_option maxHeartbeats 4000000 in
theorem of_big (a:ByteArray) (x:Nat) (w:World) (hx:x=natB (bs a)) (ha:a.size≤1000000000) (hd:(dg x).length≤100000000):Calls Tryz.prog 72 #[.string a] w (fun e w'=>∃ v',Hid (Sl w' v' (dg x))∧e=.returned v'∧Upd [] [] w w'):=by
 have HX:=Lib.hid hx
 clear hx
 go_enter Tryz.func72,Tryz.ntmps72
 go_wp2_with fail
 refine (canon_any a w (by omega)).mono ?_
 rintro e w' ⟨r,HR,rfl,rfl⟩
 have hr:bs r=be x:=by rw [HR.out,HX.out]
 have hrs:r.size≤1000000000:=by
  have h1:=be_len_le a.size x (by rw [HX.out];exact natB_lt (bs a))
  have h2:=size_of_be hr
  omega
 have HB:=Lib.hid hr
 clear HR hr
 go_wp2_with fail
 go_loopw [3,4] (fun o e wr=>∃ (z:Int) (t y q:Nat) (out:List Nat),e=.int .i64 z∧((z≤0∧-3<z∧t=0)∨z=(t:Int))∧t≤r.size∧q≤100000000∧Hid ((be x).take t=be y∧t=(be y).length)∧Hid (okL out∧dg x=out ++ dg y∧out.length=q)∧Hid (wr.ownsRow 0 3 1 o q (digVals out))∧Hid (Upd [] (foot o) w wr)) (fun _ e _=>(intOf e).toNat)
 case atStart=>exact ⟨(r.size:Int),r.size,x,0,[],rfl,.inr rfl,Nat.le_refl _,Nat.zero_le _,⟨by rw [← HB.out,List.take_of_length_le (by simp [bs_length])],by rw [← HB.out];rfl⟩,⟨okL_nil,rfl,rfl⟩,⟨by simp [digVals],.inl ⟨rfl,rfl⟩⟩,Upd.refl _ _⟩
 case round =>
  obtain ⟨z,t,y,q,out,rfl,hz,ht,hq,HT,HO,HROW,HUP⟩:=hrel
  have hup0:Upd [] [] w wr:=HUP.out.mono (fun _ h=>h) (fun _ h=>absurd h (by simp))
  by_cases h0:0<z
  · obtain rfl:z=(t:Int):=by omega
    have ht0:0<t:=by omega
    have hy:0<y:=by
     rcases Nat.eq_zero_or_pos y with h | h
     · have:=HT.out.2
       rw [h,be_zero] at this
       simp at this
       omega
     · exact h
    obtain ⟨s,hs⟩:∃ s,s=t - 3:=⟨_,rfl⟩
    have hmax:max ((t:Int) - 3) 0=(s:Int):=by omega
    have hst:s≤t:=by omega
    have hs3:t - s≤3:=by omega
    have htx:t≤(bs r).length:=ht
    have HS:=Lib.hid hs
    have HY:=Lib.hid hy
    clear hz hs hy
    go_wp2_with fail
    go_loopw [5,6] (fun d k wq=>∃ m j:Nat,d=.int .i64 (m:Int)∧k=.int .i64 (j:Int)∧s≤j∧j≤t∧Hid (m=natB (((be x).drop s).take (j - s)))∧m≤16777215∧wq=wr) (fun _ k _=>t - (intOf k).toNat)
    case atStart=>exact ⟨0,s,rfl,rfl,Nat.le_refl _,hst,by show _=_;rw [Nat.sub_self,List.take_zero];rfl,by omega,rfl⟩
    case round =>
     obtain ⟨m,j,rfl,rfl,hj1,hj2,HM,hm,hwq⟩:=hrel
     by_cases hlt:j<t
     · have hjr:j<r.size:=by omega
       have hstep:natB (((be x).drop s).take (j+1 - s))=m * 256+r[j].toNat:=by
        rw [← HB.out,show j+1 - s=(j - s)+1 by omega,List.take_add_one,List.getElem?_drop,show s+(j - s)=j by omega,bs_get r j hjr,Option.toList_some,natB_snoc,HB.out,← HM.out]
       have hle:m * 256+r[j].toNat≤16777215:=by
        rw [← hstep]
        have h1:=natB_lt (((be x).drop s).take (j+1 - s))
        have h2:(((be x).drop s).take (j+1 - s)).length≤3:=by rw [List.length_take];omega
        have h3:=Nat.pow_le_pow_right (n:=256) (by omega) h2
        have h4:(256:Nat) ^ 3=16777216:=rfl
        omega
       have HST:=Lib.hid hstep
       have hle1:(m:Int) * 256≤16777215:=by omega
       have hle2:(m:Int) * 256+(r[j].toNat:Int)≤16777215:=by omega
       subst hwq
       clear hstep
       go_wp2_with fail
       exact ⟨⟨m * 256+r[j].toNat,j+1,by go_num,by go_num,by omega,by omega,HST.out.symm,hle,by first | trivial | rfl⟩,by simp [intOf];omega⟩
     · obtain rfl:j=t:=by omega
       subst hwq
       have hbt:(be x).take j=be y:=HT.out.1
       have hlen:j=(be y).length:=HT.out.2
       have hmy:m=y % 16777216:=by
        rw [HM.out,← List.drop_take,hbt,HS.out,hlen,be_mod3]
       have hdy:dg x=(out ++ [m]) ++ dg (y / 16777216):=by
        rw [HO.out.2.1,dg_pos HY.out,← hmy]
        simp
       have hnt:(be x).take s=be (y / 16777216):=by
        rw [be_div3,← hlen,← hbt,List.take_take,← HS.out]
        congr 1
        omega
       have hns:s=(be (y / 16777216)).length:=by
        rw [be_div3,List.length_take,← hlen,HS.out]
        omega
       have hq1:q+1≤100000000:=by
        have h1:=congrArg List.length hdy
        rw [List.length_append,List.length_append,List.length_singleton,HO.out.2.2] at h1
        omega
       obtain ⟨v',w',hrun,hown',hup'⟩:=append_int wr _ q _ (m:Int) HROW.out (by omega)
       rw [← digVals_snoc] at hown'
       have HRUN:=Lib.hid hrun
       have HOWN:=Lib.hid hown'
       have HUPP:=Lib.hid (HUP.out.trans hup')
       have HN:=Lib.hid (And.intro hnt hns)
       have HOO:Hid (okL (out ++ [m])∧dg x=(out ++ [m]) ++ dg (y / 16777216)∧(out ++ [m]).length=q+1):=⟨okL_snoc HO.out.1 (by omega),hdy,by rw [List.length_append,HO.out.2.2];rfl⟩
       have hz2:(((j:Int) - 3≤0∧-3<(j:Int) - 3∧s=0)∨(j:Int) - 3=(s:Int)):=by have:=HS.out;omega
       have hs4:s≤r.size:=by omega
       have hms:((j:Int) - 3).toNat<((j:Int)).toNat:=by omega
       clear hbt hlen hmy hdy hnt hns hrun hown' hup' HUP HROW hmax
       go_wp2_with (refine wpList_append_run _ rfl _ _ _ _ rfl _ _ v' w' rfl rfl HRUN.out ?_)
       exact ⟨⟨(j:Int) - 3,s,y / 16777216,q+1,out ++ [m],rfl,hz2,hs4,hq1,HN.out,HOO,HOWN.out,HUPP.out⟩,by simp only [intOf];exact hms⟩
  · have hy:y=0:=by
     rcases Nat.eq_zero_or_pos y with h | h
     · exact h
     · have h1:=be_ne h
       have h2:=HT.out.2
       omega
    have hout:dg x=out:=by rw [HO.out.2.1,hy,dg_zero,List.append_nil]
    have hown:=HROW.out
    rw [← HO.out.2.2] at hown
    have hsl:=Sl.of_row hown
    rw [← hout] at hsl
    have HSL:=Lib.hid hsl
    clear hy hout hown hsl hz
    go_wp2_with fail
    go_ret
    exact ⟨_,HSL.out,rfl,hup0⟩
end Go.Proofs.YtmjlkkbbnkanpaaGreatDoor

namespace Go.Proofs.YtmjlkkbbnkanpaaGreatDoor
set_option maxRecDepth 100000
open Go Go.RowKit
def digs (v:Nat):List UInt8:=if v=0 then [] else Lib.decDigits v
theorem digs_step (v:Nat) (h:0<v):digs v=digs (v / 10) ++ [UInt8.ofNat (48+v % 10)]:=by
 unfold digs
 rw [if_neg (by omega),Lib.decDigits]
 by_cases hv:v<10
 · rw [dif_pos hv,if_pos (by omega),show v % 10=v by omega];rfl
 · rw [dif_neg hv,if_neg (by omega)]
theorem digs_pos {v:Nat} (h:0<v):digs v=Lib.decDigits v:=by unfold digs;rw [if_neg (by omega)]
def valD:List UInt8→Nat
 | l=>l.foldl (fun a c=>a * 10+(c.toNat - 48)) 0
def isNum (l:List UInt8):Prop:=∃ m:Int,i64in m∧l=Lib.itoa m
theorem dec_le19 {u:Nat} (h:u≤9223372036854775808):(Lib.decDigits u).length≤19:=by
 have e:(10:Nat) ^ 19=10000000000000000000:=by decide
 exact dec_len 18 u (by rw [e];omega)
def numOk (l:List UInt8) (n:Int) (ok:Bool):Prop:=i64in n∧(ok=true→l=Lib.itoa n)∧(ok=false→¬ isNum l)
theorem numOk_bad {l:List UInt8} (h:¬ isNum l):numOk l 0 false:=⟨⟨by omega,by omega⟩,(fun h=>by cases h),fun _=>h⟩
end Go.Proofs.YtmjlkkbbnkanpaaGreatDoor

namespace Go.Proofs.YtmjlkkbbnkanpaaGreatDoor
open Go.RowKit
set_option maxRecDepth 100000
theorem digVals_append (a b:List Nat):digVals (a ++ b)=digVals a ++ digVals b:=by simp [digVals]
theorem run_append_nilsrc {P:Program} (w:World) (base:Nat) (t ty e:TypeId) (i:TypeInfo) (size:Nat) (ht:P.underlying t=some (.slice e)) (hi:P.info? e=some i)
 (v:Value) (n:Nat) (xs:List Value) (hown:w.ownsRow base e size v n xs) (c:Nat):(Builtin.append_ #[t,t] ty #[v,.slice none 0 c]).run P w=.ok v w:=by
 rcases hown.2 with ⟨rfl,rfl⟩ | ⟨g,cap,cur,rfl,_,_,hnc,_⟩
 · simp [Builtin.append_,run_underlying ht,sizeOf,typeInfo,hi,Builtin.lenOf,Builtin.firstCells]
 · simp [Builtin.append_,run_underlying ht,sizeOf,typeInfo,hi,Builtin.lenOf,Builtin.firstCells,hnc,storeCells]
theorem append_sl (X:World) (v:Value) (k:Nat) (l0:List Nat) (hown:X.ownsRow 0 3 1 v k (digVals l0)) (rest:Value) (l:List Nat) (h:Sl X rest l) (hk:k+l.length≤1099511627776) :
 ∃ v' w',(Builtin.append_ #[22,22] 22 #[v,rest]).run Tryz.prog X=.ok v' w'∧w'.ownsRow 0 3 1 v' (k+l.length) (digVals (l0 ++ l))∧Upd (foot v) (foot v') X w':=by
 obtain ⟨ao,cap,rfl,h1,h2,h3⟩:=h
 obtain ⟨iu,u1,u2,u3,u4⟩:=int_parts
 cases ao with
 | none =>
  have h0:l.length=0:=by
   rcases h3 with h3 | ⟨b,e,_⟩
   · exact h3
   · cases e
  have hl:l=[]:=List.eq_nil_of_length_eq_zero h0
  subst hl
  refine ⟨v,X,run_append_nilsrc X 0 _ _ 3 iu 1 Tryz.underlying22 u1 v k _ hown cap,?_,?_⟩
  · simpa using hown
  · exact Upd.refl _ _
 | some ad =>
  obtain ⟨v',w',hrun,hown',hup'⟩:=append_block (P:=Tryz.prog) X 22 22 3 iu (.int .i64 0) 1 8 Tryz.underlying22 u1 u2 u3 u4 rfl (by omega) v k _ hown ad l.length cap (digVals l) (by simp [digVals]) (by
   intro j u hj
   have hjl:j<l.length:=by
    have:=(List.getElem?_eq_some_iff.1 hj).1
    simpa [digVals] using this
   rcases h3 with h3 | ⟨b,e,hb,hc⟩
   · omega
   · injection e with e
     subst e
     have e2:(⟨b,0,none⟩:Addr).add j=⟨b,j,none⟩:=by unfold Addr.add;split <;> simp_all
     rw [e2,hc j l[j] (List.getElem?_eq_getElem hjl)]
     have:(digVals l)[j]? =some (digV l[j]):=by simp [digVals,hjl]
     rw [this] at hj
     exact hj) (by
   intro u hu
   simp only [digVals,List.mem_map] at hu
   obtain ⟨d,_,rfl⟩:=hu
   rfl) (by omega) (by simp only [maxLen];omega)
  exact ⟨v',w',hrun,by rw [digVals_append];exact hown',hup'⟩
theorem made_digs (k:Nat):madeCells (Value.int .i64 0).cells k=(digVals (List.replicate k 0)).toArray:=by
 apply Array.ext
 · simp [madeCells,digVals]
 · intro i h1 h2
   simp [madeCells,digVals,digV,Value.cells,Nat.mod_one]
theorem make_digs (w:World) (n:Nat) (hn:n≤1000000000):(Instr.makeSlice 22 (.int .i64 (n:Int)) (.int .i64 (n:Int))).run Tryz.prog w=.ok (.slice (some ⟨w.heap.size,0,none⟩) n n) (w.alloc (.cells (digVals (List.replicate n 0)).toArray 3)):=by
 obtain ⟨i0,hi,hz0,hz1,hz2⟩:=int_parts
 have:=run_make (P:=Tryz.prog) w 22 3 i0 (.int .i64 0) Tryz.underlying22 hi hz0 .i64 .i64 n n (by omega) (by omega) (by rw [hz2];omega) (by omega)
 rw [this,hz1]
 simp only [Int.toNat_natCast,Nat.mul_one,made_digs]
theorem digVals_set (l:List Nat) (k x:Nat):(digVals l).toArray.setIfInBounds k (.int .i64 (x:Int))=(digVals (l.set k x)).toArray:=by
 simp [digVals,List.map_set,digV]
theorem Sl.set {w:World} {v:Value} {l:List Nat} (h:Sl w v l) {g j:Nat} {x:Value} (hg:∀ b∈foot v,b≠g):Sl (w.setCell ⟨g,j,none⟩ x) v l:=by
 obtain ⟨ao,cap,rfl,h1,h2,h3⟩:=h
 refine ⟨ao,cap,rfl,h1,h2,?_⟩
 rcases h3 with h3 | ⟨b,rfl,hb,hc⟩
 · exact .inl h3
 · refine .inr ⟨b,rfl,by simpa using hb,fun i d hi=>?_⟩
   have hne:b≠g:=hg b (by simp [foot,Value.ownBlock])
   rw [World.cell?_setCell_other _ _ _ _ (fun e=>hne (Addr.mk.inj e).1.symm)]
   exact hc i d hi
theorem Sl.of_block {w:World} {g:Nat} {l:List Nat} {t:TypeId} (h:w.heap[g]? =some (.cells (digVals l).toArray t (0,0))) (hl:l.length≤maxLen):Sl w (.slice (some ⟨g,0,none⟩) l.length l.length) l:=by
 refine ⟨_,_,rfl,Nat.le_refl _,hl,.inr ⟨g,rfl,(Array.getElem?_eq_some_iff.1 h).1,fun j d hj=>?_⟩⟩
 rw [cell_of_row w g j _ _ _ h]
 simp [digVals,hj,digV]
theorem okL_zeros (k:Nat):okL (List.replicate k 0):=fun d hd=>by rw [List.mem_replicate] at hd;omega
theorem okL_set {l:List Nat} (h:okL l) {k x:Nat} (hx:x<16777216):okL (l.set k x):=by
 intro d hd
 rcases List.mem_or_eq_of_mem_set hd with h1 | h1
 · exact h d h1
 · omega
theorem byte_str (wr:World) (b:UInt8):(convert 126 9 (.slice (some ⟨wr.heap.size,0,none⟩) 1 1)).run Tryz.prog (wr.alloc (.cells #[.int .u8 (b.toNat:Int)] 5))=.ok (.string ⟨#[b]⟩) (wr.alloc (.cells #[.int .u8 (b.toNat:Int)] 5)) :=
 conv_bytes (P:=Tryz.prog) (wr.alloc (.cells #[.int .u8 (b.toNat:Int)] 5)) 126 9 5 Tryz.underlying126 Tryz.underlying5 Tryz.underlying9 wr.heap.size _ _ _ (heap_alloc_new _ _) [b] rfl 0 1 1 (by simp)
def MkQuo (q r:Nat) (w:World) (e:Ending) (w':World):Prop:=∃ a b:ByteArray,Hid (bs a=be q)∧Hid (bs b=be r)∧e=.returned (.tuple #[.string a,.string b,.bool true])∧Upd [] [] w w'
set_option maxHeartbeats 2000000 in
theorem quo_small (a b:ByteArray) (x y:Nat) (w:World) (ha:a.size≤1000000000) (hb:b.size≤1000000000) (hx:x=natB (bs a)) (hy:y=natB (bs b)) (hy0:0<y) (lx:(be x).length≤7) (ly:(be y).length≤7) :
 Calls Tryz.prog 127 #[.string a,.string b] w (MkQuo (x / y) (x % y) w):=by
 have bx : x < 72057594037927936 := by have:=be_small lx;have e:(256:Nat) ^ 7=72057594037927936:=by decide
                                       omega
 have by' : y < 72057594037927936 := by have:=be_small ly;have e:(256:Nat) ^ 7=72057594037927936:=by decide
                                        omega
 obtain ⟨q,hq⟩:∃ q,q=x / y:=⟨_,rfl⟩
 obtain ⟨r,hr⟩:∃ r,r=x % y:=⟨_,rfl⟩
 have hq1:(x:Int) / (y:Int)=(q:Int):=by rw [hq];simp
 have hr1:(x:Int) % (y:Int)=(r:Int):=by rw [hr];simp
 have hq2:q<9223372036854775808:=by
  have:=Nat.div_le_self x y
  omega
 have hr2:r<9223372036854775808:=by
  have:=Nat.mod_le x y
  omega
 rw [← hq,← hr]
 have HX:=Lib.hid hx
 have HY:=Lib.hid hy
 have HLX:=Lib.hid lx
 have HLY:=Lib.hid ly
 clear hx hy hq hr lx ly
 go_enter Tryz.func127,Tryz.ntmps127
 go_wp2_with fail
 refine (canon_any b w (by omega)).mono ?_
 rintro e w' ⟨c,HC,rfl,rfl⟩
 have hcb:bs c=be y:=by rw [HC.out,HY.out]
 have hcy:y=natB (bs c):=by rw [hcb,natB_be]
 have hcs:0<c.size:=by rw [size_of_be hcb];exact be_ne hy0
 have hcl:c.size≤1000000000:=by rw [size_of_be hcb];have:=HLY.out;omega
 have hb0:((c.size:Int) == 0)=false:=by rw [beq_eq_false_iff_ne];omega
 have HCY:=Lib.hid hcy
 clear hcb hcy HC
 go_wp2_with fail
 refine (small_ok a x w (by omega) HX.out HLX.out).mono ?_
 rintro e w' ⟨rfl,rfl⟩
 go_wp2_with fail
 refine (small_ok c y w (by omega) HCY.out HLY.out).mono ?_
 rintro e w' ⟨rfl,rfl⟩
 have hyi:0<(y:Int):=by omega
 have hxi:0≤(x:Int):=by omega
 have hu0:Upd [] [] w w.drew:=(Upd.refl _ _).drew
 have hr3:(x:Int).tmod (y:Int)=(r:Int):=by rw [Int.tmod_eq_emod_of_nonneg hxi];exact hr1
 have hq3:(x:Int).tdiv (y:Int)=(q:Int):=by rw [Int.tdiv_eq_ediv_of_nonneg hxi];exact hq1
 have hq4:IntKind.i64.wrap (q:Int)=(q:Int):=IntWalk.i64_in _ (by omega)
 have hyz:((y:Int) == 0)=false:=by rw [beq_eq_false_iff_ne];omega
 have hyn:¬ y=0:=by omega
 go_wp2_with fail
 go_region_held3 (fun _=>True) (first | trivial | assumption)
  (first
   | (go_at_call 24;((with_reducible refine (of_int q _ hq2).mono ?_);rintro e wq ⟨r1,HR1,rfl,hq⟩;have u1:=hu0.trans hq;clear hq))
   | (go_at_call 24;((with_reducible refine (of_int r _ hr2).mono ?_);rintro e wq ⟨r2,HR2,rfl,hq⟩;have u2:=u1.trans hq;clear hq)))
 go_wp2_with fail
 go_ret3
 exact ⟨r1,r2,HR1,HR2,rfl,u2⟩
structure QuoAt (x y n k:Nat) (Q:List Nat) (R:Nat):Prop where
 len:Q.length=n
 ok:okL Q
 val:valL ((dg x).drop k)=valL (Q.drop k) * y+R
 lt:R<y
theorem drop_set_eq (l:List Nat) (k x:Nat) (h:k<l.length):(l.set k x).drop k=x :: l.drop (k+1):=by
 rw [List.drop_eq_getElem_cons (by simpa using h),List.getElem_set_self,List.drop_set_of_lt (by omega)]
theorem QuoAt.step {x y n j:Nat} {Q:List Nat} {R d q:Nat} (h:QuoAt x y n (j+1) Q R) (hj:j<n) (hd:(dg x)[j]? =some d) (hq:q=(d+16777216 * R) / y):QuoAt x y n j (Q.set j q) ((d+16777216 * R) % y):=by
 have hlt:=h.lt
 have hdl:d<16777216:=dg_ok x d (List.mem_of_getElem? hd)
 have hql:q<16777216:=by rw [hq];exact quo_digit hlt hdl
 refine ⟨by rw [List.length_set];exact h.len,okL_set h.ok hql,?_,Nat.mod_lt _ (by omega)⟩
 rw [valL_drop_step hd,drop_set_eq _ _ _ (by rw [h.len];exact hj),valL]
 exact quo_step h.val hq
theorem QuoAt.zero {x y n j:Nat} {Q:List Nat} {R d:Nat} (h:QuoAt x y n (j+1) Q R) (_hj:j<n) (hz:Q[j]? =some 0) (hd:(dg x)[j]? =some d) (hlt:d+16777216 * R<y):QuoAt x y n j Q (d+16777216 * R):=by
 refine ⟨h.len,h.ok,?_,hlt⟩
 rw [valL_drop_step hd,valL_drop_step hz]
 have:=quo_step (x:=d) h.val (q:=0) (by rw [Nat.div_eq_of_lt hlt])
 rw [Nat.mod_eq_of_lt hlt] at this
 exact this
theorem Upd.own (w:World) (o:Obj):Upd [] [w.heap.size] w (w.alloc o):=⟨rfl,rfl,rfl,by simp,fun k hk _=>Below.heap_alloc _ _ _ hk,fun k hk=>by simp at hk;omega⟩
theorem heap_upd {w w':World} {g:Nat} {o:Obj} (h:w.heap[g]? =some o) (u:Upd [] [] w w'):w'.heap[g]? =some o:=by
 rw [u.block _ (Array.getElem?_eq_some_iff.1 h).1 (by simp)];exact h
theorem row_one (w:World) (d:Nat):(w.alloc (.cells #[.int .i64 (d:Int)] 3)).ownsRow 0 3 1 (.slice (some ⟨w.heap.size,0,none⟩) 1 1) 1 (digVals [d]) :=
 ⟨by simp [digVals],.inr ⟨w.heap.size,1,_,rfl,Nat.zero_le _,heap_alloc_new _ _,Nat.le_refl _,by simp [maxLen],by simp,by simp [digVals,digV]⟩⟩
theorem quo_end {x y n:Nat} {Q:List Nat} {R:Nat} (h:QuoAt x y n 0 Q R):valL Q=x / y∧R=x % y:=by
 have hv:=h.val
 rw [List.drop_zero,List.drop_zero,valL_dg] at hv
 have hlt:=h.lt
 have hq:x / y=valL Q:=by
  rw [hv,Nat.mul_comm,Nat.mul_add_div (by omega),Nat.div_eq_of_lt hlt,Nat.add_zero]
 have hr:x % y=R:=by
  rw [hv,Nat.mul_comm,Nat.mul_add_mod,Nat.mod_eq_of_lt hlt]
 exact ⟨hq.symm,hr.symm⟩
theorem small_is (s:ByteArray) (x:Nat) (w:World) (hs:s.size≤1000000000000) (hx:x=natB (bs s)) :
 Calls Tryz.prog 71 #[.string s,.int .i64 7] w (fun e w'=>∃ (z:Int) (p:Bool),Hid (p=true ↔ (be x).length≤7)∧(-9223372036854775808≤z∧z≤9223372036854775807)∧e=.returned (.tuple #[.int .i64 z,.bool p])∧w=w'):=by
 by_cases h:(be x).length≤7
 · refine (small_ok s x w hs hx h).mono ?_
   rintro e w' ⟨rfl,rfl⟩
   have bx:x<72057594037927936:=by
    have:=be_small h
    have e:(256:Nat) ^ 7=72057594037927936:=by decide
    omega
   exact ⟨(x:Int),true,⟨fun _=>h,fun _=>rfl⟩,by omega,rfl,rfl⟩
 · refine (small_big s x w hs hx (by omega)).mono ?_
   rintro e w' ⟨rfl,rfl⟩
   exact ⟨0,false,⟨(fun h=>by cases h),fun h2=>absurd h2 h⟩,by omega,rfl,rfl⟩
set_option maxHeartbeats 8000000 in
theorem quo_big (a b:ByteArray) (x y:Nat) (w:World) (ha:a.size≤1000000000) (hb:b.size≤1000000000) (hx:x=natB (bs a)) (hy:y=natB (bs b)) (hy0:0<y) (hs:7<(be x).length∨7<(be y).length) (dx:(dg x).length≤100000000) (dy:(dg y).length≤100000000) :
 Calls Tryz.prog 127 #[.string a,.string b] w (MkQuo (x / y) (x % y) w):=by
 have HX:=Lib.hid hx
 have HY:=Lib.hid hy
 have HS:=Lib.hid hs
 have HDX:=Lib.hid dx
 have HDY:=Lib.hid dy
 clear hx hy hs dx dy
 go_enter Tryz.func127,Tryz.ntmps127
 go_wp2_with fail
 refine (canon_any b w (by omega)).mono ?_
 rintro e w' ⟨c,HC,rfl,rfl⟩
 have hcb:bs c=be y:=by rw [HC.out,HY.out]
 have hcy:y=natB (bs c):=by rw [hcb,natB_be]
 have hcs:0<c.size:=by rw [size_of_be hcb];exact be_ne hy0
 have hcl:c.size≤1000000000:=by
  have h1:=be_len_le b.size y (by rw [HY.out];exact natB_lt (bs b))
  rw [size_of_be hcb];omega
 have hb0:((c.size:Int) == 0)=false:=by rw [beq_eq_false_iff_ne];omega
 have HCY:=Lib.hid hcy
 clear hcb hcy HC
 go_wp2_with fail
 refine (small_is a x w (by omega) HX.out).mono ?_
 rintro e w' ⟨z1,p1,HP1,hz1,rfl,rfl⟩
 go_wp2_with fail
 refine (small_is c y w (by omega) HCY.out).mono ?_
 rintro e w' ⟨z2,p2,HP2,hz2,rfl,rfl⟩
 have hp:¬ (p1=true∧p2=true):=by
  rintro ⟨h1,h2⟩
  have g1:=HP1.out.1 h1
  have g2:=HP2.out.1 h2
  have:=HS.out
  omega
 have hpp:(p1=false)∨(p1=true∧p2=false):=by
  cases p1 <;> cases p2 <;> simp_all
 clear hp HP1 HP2 HS
 rcases hpp with rfl | ⟨rfl,rfl⟩
 all_goals
  go_wp2_with fail
  refine (of_big a x w HX.out ha HDX.out).mono ?_
  rintro e w1 ⟨u,HU,rfl,hu1⟩
  go_wp2_with fail
  refine (of_big c y w1 HCY.out hcl HDY.out).mono ?_
  rintro e w2 ⟨v,HV,rfl,hu2⟩
  have HU2:=Lib.hid (HU.out.upd hu2)
  have u2:=hu1.trans hu2
  obtain ⟨ao,cap,rfl,hc1,hc2⟩:=HU2.out.form
  obtain ⟨n,hn⟩:∃ n,n=(dg x).length:=⟨_,rfl⟩
  have hnl:n≤100000000:=by rw [hn];exact HDX.out
  rw [← hn] at hc1 HU2
  rw [← hn]
  have HN:=Lib.hid hn
  clear hn HU hu1 hu2
  go_wp2_with fail
  rw [make_digs w2 n (by omega)]
  have hg:=heap_alloc_new w2 (.cells (digVals (List.replicate n 0)).toArray 3)
  have HG:=Lib.hid hg
  have ugw:Upd [] [] w2 (w2.alloc (.cells (digVals (List.replicate n 0)).toArray 3)):=(Upd.refl _ _).alloc _
  clear hg
  go_wp2_with fail
  go_loopw [14,15] (fun rest i wr=>∃ (z:Int) (k:Nat) (Q:List Nat) (R:Nat),i=.int .i64 z∧z+1=(k:Int)∧k≤n∧Hid (QuoAt x y n k Q R)∧Hid (∀ i,i<k→Q[i]? =some 0)∧Hid (wr.heap[w2.heap.size]? =some (.cells (digVals Q).toArray 3 (0,0)))∧Hid (Sl wr rest (dg R))∧Hid (Upd [] [] w2 wr)) (fun _ i _=>(intOf i+1).toNat)
  case atStart =>
   refine ⟨(n:Int) - 1,n,List.replicate n 0,0,rfl,by omega,Nat.le_refl _,⟨by simp,okL_zeros n,?_,hy0⟩,fun i hi=>by simp [hi],HG.out,?_,ugw⟩
   · rw [List.drop_of_length_le (by rw [HN.out];omega),List.drop_of_length_le (by simp)]
     simp [valL]
   · rw [dg_zero];exact Sl.nil _
  case round =>
   obtain ⟨z,k,Q,R,rfl,hz,hk,HQ,HZ,HROW,HR,HUP⟩:=hrel
   by_cases h0:0<k
   · obtain ⟨j,rfl⟩:∃ j,k=j+1:=⟨k - 1,by omega⟩
     obtain rfl:z=(j:Int):=by omega
     have hjl:j<(dg x).length:=by rw [← HN.out];omega
     obtain ⟨d,hd⟩:∃ d,(dg x)[j]? =some d:=⟨_,List.getElem?_eq_getElem hjl⟩
     obtain ⟨g1,rfl,c1⟩:=(HU2.out.upd HUP.out).get hd
     have hdl:d<16777216:=dg_ok x d (List.mem_of_getElem? hd)
     have hRl:(dg R).length≤100000000:=Nat.le_trans (dg_len_mono (Nat.le_of_lt HQ.out.lt)) HDY.out
     have hgw:w2.heap.size<wr.heap.size:=(Array.getElem?_eq_some_iff.1 HROW.out).1
     obtain ⟨v',w',hrun,hown',hup'⟩:=append_sl (wr.alloc (.cells #[.int .i64 (d:Int)] 3)) _ 1 [d] (row_one wr d) _ (dg R) (HR.out.upd ((Upd.refl _ _).alloc _)) (by omega)
     have hupw:Upd [] (foot v') wr w':=(Upd.own wr _).trans hup'
     have hupn:Upd [] [] wr w':=hupw.mono (fun _ h=>h) (fun _ h=>absurd h (by simp))
     have hfoot:∀ b∈foot v',b≠w2.heap.size:=fun b hb=>by
      rcases hupw.new b hb with h | h
      · simp at h
      · omega
     have hsl:=Sl.of_row (l:=[d] ++ dg R) (by rw [List.length_append];exact hown')
     have hokl:okL ([d] ++ dg R):=by
      intro e he
      rcases List.mem_cons.1 he with rfl | he
      · exact hdl
      · exact dg_ok R e he
     have hval:valL ([d] ++ dg R)=d+16777216 * R:=by
      show d+16777216 * valL (dg R)=_
      rw [valL_dg]
     have HRUN:=Lib.hid hrun
     have HSL:=Lib.hid hsl
     have HOK:=Lib.hid hokl
     have HVAL:=Lib.hid hval
     have HFT:=Lib.hid hfoot
     have HUPN:=Lib.hid (HUP.out.trans hupn)
     have HROW1:=Lib.hid (heap_upd HROW.out hupn)
     have HD:=Lib.hid hd
     clear hjl hd hrun hown' hup' hupw hupn hfoot hsl hokl hval HUP HROW HR hz
     go_wp2_with (refine wpList_append_run _ rfl _ _ _ _ rfl _ _ v' w' rfl rfl HRUN.out ?_)
     refine (trim_at v' _ w' HSL.out HOK.out).mono ?_
     rintro e w3 ⟨v2,HV2,rfl,rfl⟩
     obtain ⟨R2,hR2⟩:∃ R2,R2=d+16777216 * R:=⟨_,rfl⟩
     have hv2:Sl w' v2 (dg R2):=by rw [hR2,← HVAL.out];exact HV2.out.1
     have hf2:∀ b∈foot v2,b≠w2.heap.size:=by rw [HV2.out.2];exact HFT.out
     have HR2:=Lib.hid hR2
     have HSV2:=Lib.hid hv2
     have HF2:=Lib.hid hf2
     clear hR2 hv2 hf2 HV2 HSL HOK HVAL HFT HRUN
     go_wp2_with fail
     refine (cmp_any v2 v R2 y w' HSV2.out (HV.out.upd HUPN.out)).mono ?_
     rintro e w4 ⟨r,HCMP,hr,rfl,hu4⟩
     have HUP4:=Lib.hid (HUPN.out.trans hu4)
     have HSV4:=Lib.hid (HSV2.out.upd hu4)
     have HROW4:=Lib.hid (heap_upd HROW1.out hu4)
     clear hu4 HUPN HSV2 HROW1
     by_cases hlt:r<0
     · have hl2:d+16777216 * R<y:=by rw [← HR2.out];exact HCMP.out.1.1 hlt
       have hst:=HQ.out.zero (by omega) (HZ.out j (by omega)) HD.out hl2
       rw [← HR2.out] at hst
       have HST:=Lib.hid hst
       have HZ2:Hid (∀ i,i<j→Q[i]? =some 0):=fun i hi=>HZ.out i (by omega)
       clear hst hl2
       go_wp2_with fail
       exact ⟨⟨(j:Int) - 1,j,Q,R2,rfl,by omega,by omega,HST.out,HZ2.out,HROW4.out,HSV4.out,HUP4.out⟩,by first | (simp [intOf];done) | (simp [intOf];omega)⟩
     · have hge:y≤R2:=by
        have:=HCMP.out.1
        omega
       have hq:R2 / y<16777216:=by rw [HR2.out];exact quo_digit HQ.out.lt hdl
       have HGE:=Lib.hid hge
       clear hge
       go_wp2_with fail
       refine (digit_any v2 v R2 y w4 HSV4.out (HV.out.upd HUP4.out) hy0 hq (by have:=HDY.out;omega)).mono ?_
       rintro e w5 ⟨q,HQQ,hql,rfl,hu5⟩
       have HUP5:=Lib.hid (HUP4.out.trans hu5)
       have HSV5:=Lib.hid (HSV4.out.upd hu5)
       have HROW5:=Lib.hid (heap_upd HROW4.out hu5)
       clear hu5 HUP4 HSV4 HROW4 hq
       have hjn:j<n:=by omega
       have hjq:j<Q.length:=by rw [HQ.out.len];exact hjn
       have f1:w5.frozen? ⟨w2.heap.size,j,none⟩=false:=frozen_of_row _ _ _ _ _ HROW5.out
       have hr6:=heap_setCell_same w5 w2.heap.size j _ _ (.int .i64 (q:Int)) HROW5.out
       rw [digVals_set] at hr6
       have k0:w5.cell? ⟨w2.heap.size,j,none⟩=some (.int .i64 0):=by
        rw [cell_of_row w5 _ j _ _ _ HROW5.out]
        have:=HZ.out j (by omega)
        simp [digVals,this,digV]
       have k6:(w5.setCell ⟨w2.heap.size,j,none⟩ (.int .i64 (q:Int))).cell? ⟨w2.heap.size,j,none⟩=some (.int .i64 (q:Int)):=by
        rw [cell_of_row _ _ j _ _ _ hr6]
        simp [digVals,digV,hjq]
       have HROW6:=Lib.hid hr6
       have HUP6:=Lib.hid (HUP5.out.setNew (p:=⟨w2.heap.size,j,none⟩) (Nat.le_refl _) (.int .i64 (q:Int)))
       have HSV6:=Lib.hid (HSV5.out.set (j:=j) (x:=.int .i64 (q:Int)) HF2.out)
       have HST:=Lib.hid (HQ.out.step (q:=q) hjn HD.out (by rw [HQQ.out,HR2.out]))
       have HZ2:Hid (∀ i,i<j→(Q.set j q)[i]? =some 0):=fun i hi=>by rw [List.getElem?_set_ne (by omega)];exact HZ.out i (by omega)
       have p0:(0:Int)≤(j:Int):=by omega
       have p1:(j:Int)<(n:Int):=by omega
       clear hr6 HROW5 HUP5 HSV5 hjq
       go_wp2_with fail
       refine (times_any v y q _ (HV.out.upd HUP6.out) hql (by have:=HDY.out;omega)).mono ?_
       rintro e w7 ⟨v3,HV3,rfl,hu7⟩
       have HUP7:=Lib.hid (HUP6.out.trans hu7)
       have HSV7:=Lib.hid (HSV6.out.upd hu7)
       have HROW7:=Lib.hid (heap_upd HROW6.out hu7)
       have hle:y * q≤R2:=by rw [HQQ.out];exact Nat.mul_div_le R2 y
       have hR2l:(dg R2).length≤1000000000:=by
        have h1:R2<16777216 ^ ((dg y).length+1):=by
         rw [HR2.out,Nat.pow_succ]
         have h2:=dg_lt y
         have h3:=HQ.out.lt
         have h4:R+1≤16777216 ^ (dg y).length:=by omega
         omega
        have h5:=dg_len_le _ _ h1
        have:=HDY.out
        omega
       clear hu7 HUP6 HSV6 HROW6 k0 k6 f1
       go_wp2_with fail
       refine (minus_any v2 v3 R2 (y * q) w7 HSV7.out HV3.out hle hR2l).mono ?_
       rintro e w8 ⟨v4,HV4,rfl,hu8⟩
       have hrest:R2 - y * q=(d+16777216 * R) % y:=by
        rw [HQQ.out,← HR2.out]
        have:=Nat.div_add_mod R2 y
        omega
       have hs8:=HV4.out
       rw [hrest] at hs8
       have HSV8:=Lib.hid hs8
       have HUP8:=Lib.hid (HUP7.out.trans hu8)
       have HROW8:=Lib.hid (heap_upd HROW7.out hu8)
       clear hrest hs8 hu8 hle hR2l
       go_wp2_with fail
       exact ⟨⟨(j:Int) - 1,j,Q.set j q,(d+16777216 * R) % y,rfl,by omega,by omega,HST.out,HZ2.out,HROW8.out,HSV8.out,HUP8.out⟩,by first | (simp [intOf];done) | (simp [intOf];omega)⟩
   · obtain rfl:k=0:=by omega
     obtain rfl:z=-1:=by omega
     have hqn:=HQ.out.len
     have hsl:=Sl.of_block HROW.out (by rw [hqn];simp only [maxLen];omega)
     rw [hqn] at hsl
     have hq1:=quo_end HQ.out
     have hRl:(dg R).length≤100000000:=Nat.le_trans (dg_len_mono (Nat.le_of_lt HQ.out.lt)) HDY.out
     have HSL:=Lib.hid hsl
     have HQE:=Lib.hid hq1
     have HQN:=Lib.hid hqn
     clear hqn hsl hq1 hz h0
     go_wp2_with fail
     refine (number_big _ Q wr HSL.out HQ.out.ok (by rw [HQN.out];exact hnl)).mono ?_
     rintro e w9 ⟨s1,HS1,rfl,hu9⟩
     go_wp2_with fail
     refine (number_big _ (dg R) w9 (HR.out.upd hu9) (dg_ok R) hRl).mono ?_
     rintro e w10 ⟨s2,HS2,rfl,hu10⟩
     go_wp2_with fail
     go_ret3
     refine ⟨s1,s2,?_,?_,rfl,(u2.trans HUP.out).trans (hu9.trans hu10)⟩
     · show _=_
       rw [HS1.out,HQE.out.1]
     · show _=_
       rw [HS2.out,valL_dg,HQE.out.2]
theorem pow_wide (k:Nat):(256:Nat) ^ k≤16777216 ^ k:=Nat.pow_le_pow_left (by omega) k
theorem dg_len_be (z:Nat):(dg z).length≤(be z).length:=dg_len_le _ _ (Nat.lt_of_lt_of_le (be_len z) (pow_wide _))
theorem quo_any (a b:ByteArray) (x y:Nat) (w:World) (ha:bs a=be x) (hb:bs b=be y) (hy0:0<y) (lx:(be x).length≤100000000) (ly:(be y).length≤100000000) :
 Calls Tryz.prog 127 #[.string a,.string b] w (MkQuo (x / y) (x % y) w):=by
 have hx:x=natB (bs a):=by rw [ha,natB_be]
 have hy:y=natB (bs b):=by rw [hb,natB_be]
 have sa:a.size≤1000000000:=by rw [size_of_be ha];omega
 have sb:b.size≤1000000000:=by rw [size_of_be hb];omega
 by_cases h:(be x).length≤7∧(be y).length≤7
 · exact quo_small a b x y w sa sb hx hy hy0 h.1 h.2
 · exact quo_big a b x y w sa sb hx hy hy0 (by omega) (Nat.le_trans (dg_len_be x) lx) (Nat.le_trans (dg_len_be y) ly)
set_option maxHeartbeats 1000000 in
theorem text_big (a:ByteArray) (x:Nat) (w:World) (ha:x=natB (bs a)) (hl:a.size≤100000000) (hD:(Lib.decDigits x).length≤1000000000) :
 Calls Tryz.prog 61 #[.string a] w (MkS (Lib.decDigits x) w):=by
 have HA:=Lib.hid ha
 clear ha
 go_enter Tryz.func61,Tryz.ntmps61
 go_wp2_with fail
 refine (canon_any a w (by omega)).mono ?_
 rintro e w' ⟨r,HR,rfl,rfl⟩
 have hr:bs r=be x:=by rw [HR.out,HA.out]
 have hrl:(be x).length≤100000000:=Nat.le_trans (be_len_le a.size x (by rw [HA.out];exact natB_lt (bs a))) hl
 by_cases h0:x=0
 · subst h0
   have hs:r.size=0:=by rw [size_of_be hr,be_zero];rfl
   have hs2:((r.size:Int) == 0)=true:=by rw [beq_iff_eq];omega
   clear hr HR HA
   go_wp2_with fail
   go_ret
   exact ⟨⟨#[48]⟩,by show _=_;rw [Lib.decDigits_one (by omega)];rfl,by rw [Lib.decDigits_one (by omega)];decide,rfl,Upd.refl _ _⟩
 · have hs:0<r.size:=by rw [size_of_be hr];exact be_ne (by omega)
   have hs2:((r.size:Int) == 0)=false:=by rw [beq_eq_false_iff_ne];omega
   have HB:=Lib.hid hr
   have HLL:=Lib.hid hrl
   have HDD:=Lib.hid (digs_pos (v:=x) (by omega))
   clear hr HR HA hrl h0
   go_wp2_with fail
   go_loopw [0,3] (fun a s wr=>∃ (q:Nat) (c t:ByteArray),a=.string c∧s=.string t∧Hid (bs c=be q)∧Hid (digs q ++ bs t=digs x)∧q≤x∧Hid (Upd [] [] w wr)) (fun a _ _=>match a with | .string c=>natB (bs c) | _=>0)
   case atStart=>exact ⟨x,r,⟨#[]⟩,rfl,rfl,HB.out,by show _=_;simp [bs],Nat.le_refl _,Upd.refl _ _⟩
   case round =>
    obtain ⟨q,c,t,rfl,rfl,HC,HT,hq,HUP⟩:=hrel
    by_cases h1:0<q
    · have hcs:0<c.size:=by rw [size_of_be HC.out];exact be_ne h1
      have hql:(be q).length≤100000000:=Nat.le_trans (be_len_le (be x).length q (Nat.lt_of_le_of_lt hq (be_len x))) HLL.out
      have HQL:=Lib.hid hql
      clear hql
      go_wp2_with fail
      refine (of_int 10 wr (by omega)).mono ?_
      rintro e w2 ⟨ten,HTEN,rfl,hu2⟩
      go_wp2_with fail
      refine (quo_any c ten q 10 w2 HC.out HTEN.out (by omega) HQL.out (Nat.le_trans (be_len_le 1 10 (by decide)) (by omega))).mono ?_
      rintro e w3 ⟨q1,r1,HQ1,HR1,rfl,hu3⟩
      go_wp2_with fail
      have hr1n:q % 10=natB (bs r1):=by rw [HR1.out,natB_be]
      have hr1s:r1.size≤1000000000000:=by
       rw [size_of_be HR1.out]
       exact Nat.le_trans (be_len_le 1 (q % 10) (by omega)) (by omega)
      refine (int_any r1 (q % 10) w3 hr1s hr1n (by omega)).mono ?_
      rintro e w' ⟨rfl,rfl⟩
      obtain ⟨b,hb⟩:∃ b,b=UInt8.ofNat (48+q % 10):=⟨_,rfl⟩
      have hbn:b.toNat=48+q % 10:=by rw [hb];exact digit_toNat (Nat.mod_lt _ (by omega))
      have hst:=digs_step q h1
      rw [← hb] at hst
      have hb1:48+(q:Int) % 10=(b.toNat:Int):=by omega
      have hR2:digs (q / 10) ++ bs (⟨#[b]⟩ ++ t)=digs x:=by
       rw [bs_append,← HT.out,hst,List.append_assoc]
       rfl
      have htl:t.size≤1000000000:=by
       have h2:=congrArg List.length HT.out
       rw [List.length_append,bs_length,HDD.out] at h2
       omega
      have hb3:(ByteArray.mk #[b]).size≤1:=Nat.le_refl _
      have HR2:=Lib.hid hR2
      have HCV:=Lib.hid (byte_str w3 b)
      have hu4:Upd [] [] w3 (w3.alloc (.cells #[.int .u8 (b.toNat:Int)] 5)):=(Upd.refl _ _).alloc _
      have HB1:=Lib.hid hb1
      have hms:natB (bs q1)<natB (bs c):=by
       rw [HQ1.out,HC.out,natB_be,natB_be]
       omega
      have HMS:=Lib.hid hms
      clear hb hbn hst hR2 hb1 hr1n hms
      go_wp2_with fail
      rw [HB1.out,HCV.out]
      go_wp2_with fail
      exact ⟨⟨q / 10,q1,_,rfl,rfl,HQ1.out,HR2.out,by omega,HUP.out.trans ((hu2.trans hu3).trans hu4)⟩,HMS.out⟩
    · obtain rfl:q=0:=by omega
      have hcs:c.size=0:=by rw [size_of_be HC.out,be_zero];rfl
      have hres:bs t=Lib.decDigits x:=by rw [← HDD.out,← HT.out];simp [digs]
      have HRES:=Lib.hid hres
      clear hres h1
      go_wp2_with fail
      go_ret
      exact ⟨t,HRES.out,Nat.le_of_eq (bs_size HRES.out),rfl,HUP.out⟩
end Go.Proofs.YtmjlkkbbnkanpaaGreatDoor

namespace Go.Proofs.YtmjlkkbbnkanpaaGreatDoor
set_option maxRecDepth 100000
def eqText (w:List UInt8) (xs:List Int):List UInt8:=w ++ [47] ++ Lib.join (xs.map Lib.itoa) [47]
def eqScal (w:List UInt8) (xs:List Int):Nat:=scalN (eqText w xs)
def wNonce:List UInt8:=[110,111,110,99,101]
def wEqual:List UInt8:=[101,113,117,97,108]
def pP (a n:Nat):Nat:=a ^ n % Pn
def nonceE (x g h:Nat):Nat:=eqScal wNonce [(x:Int),(g:Int),(h:Int)]
def chalE (g a h b r s:Nat):Nat:=eqScal wEqual [(g:Int),(a:Int),(h:Int),(b:Int),(r:Int),(s:Int)]
def cWith (x g h k:Nat):Nat:=chalE g (pP g x) h (pP h x) (pP g k) (pP h k)
def zWith (x g h k:Nat):Nat:=(k+cWith x g h k * x) % Qn
theorem elem_mem {x:Nat} (h1:1≤x) (h2:x<Pn):memN (x * x % Pn):=by
 have hd:¬ Pn ∣ x:=fun h=>by have:=Nat.le_of_dvd (by omega) h;omega
 have e:(x * x % Pn) ^ Qn % Pn=1:=by rw [pow_mod_base];exact square_member hd
 refine ⟨?_,Nat.mod_lt _ pn_pos,e⟩
 by_cases h0:x * x % Pn=0
 · rw [h0,Nat.zero_pow qn_pos,Nat.zero_mod] at e
   omega
 · omega
def elemN (n:Nat):Nat:=(n+1) * (n+1) % Pn
end Go.Proofs.YtmjlkkbbnkanpaaGreatDoor
