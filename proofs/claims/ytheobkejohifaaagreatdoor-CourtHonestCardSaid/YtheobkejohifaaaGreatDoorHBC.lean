/- nat: slices of digits to the base 2^32 and what follows. -/
import Derived.Test.YtheobkejohifaaaGreatDoorHBB
import Derived.Test.YtheobkejohifaaaGreatDoorHAC
import Derived.Test.YtheobkejohifaaaGreatDoorHAG
import Derived.BigRegion
import Derived.Test.YtheobkejohifaaaGreatDoorHAJ
import Derived.Test.YtheobkejohifaaaGreatDoorHAK
namespace Go.Proofs.YtheobkejohifaaaGreatDoor
open Go.RowKit
set_option maxRecDepth 100000
def wV (d:Nat):Value:=.int .u32 (d:Int)
def pco (l:List Nat):List Value:=l.map wV
def Wd (w:World) (v:Value) (l:List Nat):Prop:=∃ ao cap,v=.slice ao l.length cap∧l.length≤cap∧cap≤maxLen∧(l.length=0∨∃ b,ao=some ⟨b,0,none⟩∧b<w.heap.size∧∀ (j d:Nat),l[j]? =some d→w.cell? ⟨b,j,none⟩=some (.int .u32 (d:Int)))
theorem Wd.nil (w:World):Wd w (.slice none 0 0) []:=⟨none,0,rfl,Nat.le_refl _,by simp,.inl rfl⟩
theorem Wd.upd {w w':World} {v:Value} {l:List Nat} (h:Wd w v l) (u:Upd [] [] w w'):Wd w' v l:=by
 obtain ⟨ao,cap,rfl,h1,h2,h3⟩:=h
 refine ⟨ao,cap,rfl,h1,h2,?_⟩
 rcases h3 with h3 | ⟨b,rfl,hb,hc⟩
 · exact .inl h3
 · exact .inr ⟨b,rfl,Nat.lt_of_lt_of_le hb u.size,fun j d hj=>(u.cell hb (by simp)).trans (hc j d hj)⟩
def wLen:Value→Nat
 | .slice _ n _=>n
 | _=>0
theorem pg8 (v:Value) (l:List Nat) (w:World) (h:Wd w v l) (hl:okW l):Calls Tryz.prog 73 #[v] w (fun e w'=>∃ v',Hid (Wd w v' (dw (valW l))∧foot v'=foot v)∧e=.returned v'∧w=w'):=by
 obtain ⟨ao,cap,rfl,h1,h2,h3⟩:=h
 obtain ⟨n,hn⟩:∃ n,n=l.length:=⟨_,rfl⟩
 rw [← hn] at h1 h3
 rw [← hn]
 unfold maxLen at h2
 have H3:=Lib.hid h3
 have HN:=Lib.hid hn
 clear h3 hn
 go_enter Tryz.func73,Tryz.ntmps73
 go_wp2_with fail
 go_loop [0] (fun v=>∃ m:Nat,v=.slice ao m cap∧m≤n∧Hid (valW (l.take m)=valW l)) (fun v=>wLen v)
 case atStart=>exact ⟨n,rfl,Nat.le_refl _,by show _=_;rw [HN.out,List.take_length]⟩
 case round =>
  obtain ⟨m,rfl,hm,HM⟩:=hrel
  have hend:∀ k,k≤n→valW (l.take k)=valW l→(∀ d,(l.take k).getLast? =some d→d≠0)→Wd w (.slice ao k cap) (dw (valW l)):=by
   intro k hk hv hlast
   have hd:=pgk (poV hl k) hlast
   rw [hv] at hd
   have hlen:(dw (valW l)).length=k:=by rw [← hd,List.length_take,← HN.out];omega
   refine ⟨ao,cap,by rw [hlen],by omega,by simp only [maxLen];omega,?_⟩
   rcases H3.out with h3 | ⟨b,rfl,hb,hc⟩
   · exact .inl (by omega)
   · refine .inr ⟨b,rfl,hb,fun j d hj=>hc j d ?_⟩
     rw [← hd,List.getElem?_take] at hj
     split at hj
     · exact hj
     · cases hj
  have HE:=Lib.hid hend
  clear hend
  by_cases h0:0<m
  · obtain ⟨k,rfl⟩:∃ k,m=k+1:=⟨m - 1,by omega⟩
    obtain ⟨b,rfl,hb,hc⟩:∃ b,ao=some ⟨b,0,none⟩∧b<w.heap.size∧∀ (j d:Nat),l[j]? =some d→w.cell? ⟨b,j,none⟩=some (.int .u32 (d:Int)):=by
     rcases H3.out with h | h
     · omega
     · exact h
    have hkl:k<l.length:=by have:=HN.out;omega
    have hk0:=hc k l[k] (List.getElem?_eq_getElem hkl)
    obtain ⟨d,hd⟩:∃ d,d=l[k]:=⟨_,rfl⟩
    rw [← hd] at hk0
    have hst:l[k]? =some d:=by rw [hd];exact List.getElem?_eq_getElem hkl
    have HST:=Lib.hid hst
    clear hc hkl hd hst
    have hki:((k+1:Nat):Int) - 1=(k:Int):=by omega
    by_cases hd0:d=0
    · subst hd0
      go_wp2_with fail
      refine ⟨⟨k,rfl,by omega,?_⟩,by simp [wLen]⟩
      show _=_
      rw [← HM.out,pgj HST.out,pnH,Nat.mul_zero,Nat.add_zero]
    · have hb0:((d:Int) == 0)=false:=by rw [beq_eq_false_iff_ne];omega
      have hfin:=HE.out (k+1) hm HM.out (fun x hx=>by
       rw [pgj HST.out,List.getLast?_concat] at hx
       simp only [Option.some.injEq] at hx
       omega)
      have HF:=Lib.hid hfin
      clear hfin hd0
      go_wp2_with fail
      go_ret
      exact ⟨_,⟨HF.out,rfl⟩,rfl,rfl⟩
  · obtain rfl:m=0:=by omega
    have hfin:=HE.out 0 hm HM.out (fun x hx=>by simp at hx)
    have HF:=Lib.hid hfin
    clear hfin
    go_wp2_with fail
    go_ret
    exact ⟨_,⟨HF.out,by cases ao <;> rfl⟩,rfl,rfl⟩
theorem pcq (v:Value) (l:List Nat) (w:World) (h:Wd w v l) (hl:okW l):Calls Tryz.prog 73 #[v] w (fun e w'=>∃ v',Hid (Wd w v' (dw (valW l)))∧e=.returned v'∧w=w'):=by
 refine (pg8 v l w h hl).mono ?_
 rintro e w' ⟨v',HV,he,hw⟩
 exact ⟨v',HV.out.1,he,hw⟩
theorem Wd.get {w:World} {ao:Option Addr} {n cap:Nat} {l:List Nat} (h:Wd w (.slice ao n cap) l) {k d:Nat} (hk:l[k]? =some d):∃ b,ao=some ⟨b,0,none⟩∧w.cell? ⟨b,k,none⟩=some (.int .u32 (d:Int)):=by
 obtain ⟨ao',cap',e,h1,h2,h3⟩:=h
 simp only [Value.slice.injEq] at e
 obtain ⟨rfl,rfl,rfl⟩:=e
 have hkl:=(List.getElem?_eq_some_iff.1 hk).1
 rcases h3 with h3 | ⟨b,rfl,hb,hc⟩
 · omega
 · exact ⟨b,rfl,hc k d hk⟩
theorem Wd.form {w:World} {v:Value} {l:List Nat} (h:Wd w v l):∃ ao cap,v=.slice ao l.length cap∧l.length≤cap∧cap≤9223372036854775807:=by
 obtain ⟨ao',cap',e,h1,h2,h3⟩:=h
 exact ⟨ao',cap',e,h1,h2⟩
def ppq:Value→Nat
 | .string t=>t.size
 | _=>0
theorem pik (s:ByteArray) (w:World) (hs:s.size≤1000000000000):Calls Tryz.prog 166 #[.string s,.int .u8 0] w (phC (natB (bs s)) w):=by
 go_enter Tryz.func166,Tryz.ntmps166
 go_wp2_with fail
 go_loop [0] (fun v=>∃ (k:Nat) (t:ByteArray),v=.string t∧k≤s.size∧Hid (bs t=(bs s).drop k)∧t.size=s.size - k∧Hid (pbR ((bs s).drop k)=pbR (bs s))) (fun v=>ppq v)
 case atStart=>exact ⟨0,s,rfl,Nat.zero_le _,by simp [Hid],by omega,rfl⟩
 case round =>
  obtain ⟨k,t,rfl,hk,HT,htz,HK⟩:=hrel
  by_cases hlt:0<t.size
  · have hks:k<s.size:=by omega
    have hg:(bs s)[k]? =some t[0]:=by
     have h1:=pf4 t 0 hlt
     rw [HT.out,List.getElem?_drop,Nat.add_zero] at h1
     exact h1
    by_cases h0:(t[0].toNat:Int)=0
    · have hb:((t[0].toNat:Int) == 0)=true:=by rw [beq_iff_eq];exact h0
      have hst:pbR ((bs s).drop (k+1))=pbR (bs s):=by
       rw [← pfZ (by rw [hg,piT h0]),HK.out]
      have hbt:bs (t.extract 1 t.size)=(bs s).drop (k+1):=by
       rw [pa1,HT.out,List.drop_drop,List.take_of_length_le (by simp [pac];omega),Nat.add_comm]
      have HST:=Lib.hid hst
      have HBT:=Lib.hid hbt
      clear hst h0 hbt hg
      go_wp2_with fail
      rw [htz] at HBT
      exact ⟨⟨k+1,_,rfl,by omega,HBT,by rw [ByteArray.size_extract];omega,HST⟩,by simp [ppq,ByteArray.size_extract];omega⟩
    · have hb:((t[0].toNat:Int) == 0)=false:=by rw [beq_eq_false_iff_ne];exact h0
      have hst:(bs s).drop k=be (natB (bs s)):=by
       rw [← peI,← HK.out,pf0 hg (fun e=>h0 (by rw [e];rfl))]
      have HST:=Lib.hid hst
      clear hst h0 hg
      go_wp2_with fail
      go_ret
      exact ⟨t,by show _=_;rw [HT.out,HST.out],rfl,rfl⟩
  · obtain rfl:k=s.size:=by omega
    have hst:be (natB (bs s))=[]:=by
     rw [← peI,← HK.out,List.drop_of_length_le (by simp [pac])]
     rfl
    have HST:=Lib.hid hst
    clear hst
    go_wp2_with fail
    go_ret
    exact ⟨t,by show _=_;rw [HT.out,HST.out,List.drop_of_length_le (by simp [pac])],rfl,rfl⟩
theorem pnM (s:ByteArray) (w:World) (hs:s.size≤1000000000000):Calls Tryz.prog 72 #[.string s] w (phC (natB (bs s)) w):=by
 have HT:=Lib.hid (pik s w hs)
 have HTL:Hid (Calls Tryz.prog 131 #[.string s,.string ⟨#[0]⟩] w (phC (natB (bs s)) w)):=by
  by_cases h0:s=⟨#[]⟩
  · subst h0
    clear HT
    go_enter Tryz.func131,Tryz.ntmps131
    go_wp2_with fail
    go_ret
    exact ⟨_,by show _=_;exact pbg.symm,rfl,rfl⟩
  · have hb:s.toList.isEmpty=false:=by
     rw [Bool.eq_false_iff,ne_eq,List.isEmpty_iff]
     exact fun e=>h0 (paM (by rw [ByteArray.toList_eq] at e;exact e))
    go_enter Tryz.func131,Tryz.ntmps131
    go_wp2_with fail
    refine HT.out.mono ?_
    rintro e w' ⟨r,HR,rfl,rfl⟩
    go_wp2_with fail
    go_ret
    exact ⟨r,HR,rfl,rfl⟩
 clear HT
 go_enter Tryz.func72,Tryz.ntmps72
 go_wp2_with fail
 refine HTL.out.mono ?_
 rintro e w' ⟨r,HR,rfl,rfl⟩
 go_wp2_with fail
 go_ret
 exact ⟨r,HR,rfl,rfl⟩
theorem pnN:∃ i:TypeInfo,Tryz.prog.info? 129=some i∧i.zero=some (.int .u32 0)∧i.size=1∧i.bytes=4:=by
 have h:(Tryz.prog.info? 129).map (fun i=>(i.zero,i.size,i.bytes))=some (some (.int .u32 0),1,4):=by kernel_rfl
 obtain ⟨i,hi,he⟩:=Option.map_eq_some_iff.1 h
 simp only [Prod.mk.injEq] at he
 exact ⟨i,hi,he⟩
theorem pls (k:Nat):madeCells (Value.int .u32 0).cells k=(pco (List.replicate k 0)).toArray:=by
 apply Array.ext
 · simp [madeCells,pco]
 · intro i h1 h2
   simp [madeCells,pco,wV,Value.cells,Nat.mod_one]
theorem pbH (w:World) (n:Nat) (hn:n≤1000000000):(Instr.makeSlice 86 (.int .i64 (n:Int)) (.int .i64 (n:Int))).run Tryz.prog w=.ok (.slice (some ⟨w.heap.size,0,none⟩) n n) (w.alloc (.cells (pco (List.replicate n 0)).toArray 129)):=by
 obtain ⟨i0,hi,hz0,hz1,hz2⟩:=pnN
 have:=run_make (P:=Tryz.prog) w 86 129 i0 (.int .u32 0) Tryz.underlying86 hi hz0 .i64 .i64 n n (by omega) (by omega) (by rw [hz2];omega) (by omega)
 rw [this,hz1]
 simp only [Int.toNat_natCast,Nat.mul_one,pls]
def WB (w:World) (g:Nat) (l:List Nat):Prop:=w.heap[g]? =some (.cells (pco l).toArray 129 (0,0))
theorem WB.upd {w w':World} {g:Nat} {l:List Nat} (h:WB w g l) (u:Upd [] [] w w'):WB w' g l:=by
 unfold WB at h ⊢
 rw [u.block _ (Array.getElem?_eq_some_iff.1 h).1 (by simp)];exact h
theorem WB.cell {w:World} {g:Nat} {l:List Nat} (h:WB w g l) {j d:Nat} (hj:l[j]? =some d):w.cell? ⟨g,j,none⟩=some (.int .u32 (d:Int)):=by
 rw [cell_of_row w g j _ _ _ h,List.getElem?_toArray]
 simp [pco,hj,wV]
theorem WB.frozen {w:World} {g:Nat} {l:List Nat} (h:WB w g l) (j:Nat):w.frozen? ⟨g,j,none⟩=false:=frozen_of_row _ _ _ _ _ h
theorem WB.set {w:World} {g:Nat} {l:List Nat} (h:WB w g l) (j d:Nat):WB (w.setCell ⟨g,j,none⟩ (.int .u32 (d:Int))) g (l.set j d):=by
 have:=heap_setCell_same w g j _ _ (.int .u32 (d:Int)) h
 unfold WB
 rw [this]
 congr 2
 simp [pco,List.map_set,wV]
theorem WB.slice {w:World} {g:Nat} {l:List Nat} (h:WB w g l) (hl:l.length≤maxLen):Wd w (.slice (some ⟨g,0,none⟩) l.length l.length) l :=
 ⟨_,_,rfl,Nat.le_refl _,hl,.inr ⟨g,rfl,(Array.getElem?_eq_some_iff.1 h).1,fun _ _ hj=>h.cell hj⟩⟩
theorem pg9 (s:ByteArray) (p:Nat) (b:UInt8) (hb:(bs s)[p]? =some b) (w:World):(Instr.index 57 (.string s) (.int .i64 (p:Int))).run Tryz.prog w=.ok (.int .u8 (b.toNat:Int)) w:=by
 have hu:Tryz.prog.underlying 57=some .string:=Tryz.underlying57
 have h0:(0:Int)≤(p:Int):=by omega
 have hp:p<s.size:=(List.getElem?_eq_some_iff.1 hb).1
 simp only [Instr.index,asIntOf,Sem.run_bind,Sem.run_pure,Result.andThen_ok,run_underlying hu w]
 rw [if_pos h0,Int.toNat_natCast]
 have h1:=pf4 s p hp
 rw [hb] at h1
 have h2:s[p]? =some b:=by rw [getElem?_pos s p hp];exact h1.symm
 rw [h2]
 rfl
theorem or32 {d x r:Nat} (hd:d<256 ^ r) (hx:x<256) (hr:r<4):bits .or .u32 (d:Int) ((x * 256 ^ r:Nat):Int)=((d+x * 256 ^ r:Nat):Int):=by
 have hlt:d+x * 256 ^ r<4294967296:=by
  have h4:r=0∨r=1∨r=2∨r=3:=by omega
  rcases h4 with rfl | rfl | rfl | rfl
  · simp at hd ⊢;omega
  · simp at hd ⊢;omega
  · have h2:(256:Nat) ^ 2=65536:=by decide
    rw [h2] at hd ⊢;omega
  · have h3:(256:Nat) ^ 3=16777216:=by decide
    rw [h3] at hd ⊢;omega
 show IntKind.u32.wrap ((BitVec.ofInt 32 (d:Int) ||| BitVec.ofInt 32 ((x * 256 ^ r:Nat):Int)).toNat:Int)=_
 have e1:(BitVec.ofInt 32 (d:Int)).toNat=d:=by
  rw [BitVec.toNat_ofInt]
  show ((d:Int) % 4294967296).toNat=_
  omega
 have e2:(BitVec.ofInt 32 ((x * 256 ^ r:Nat):Int)).toNat=x * 256 ^ r:=by
  rw [BitVec.toNat_ofInt]
  show (((x * 256 ^ r:Nat):Int) % 4294967296).toNat=_
  omega
 have e3:d ||| x * 256 ^ r=d+x * 256 ^ r:=by
  have hp:(256:Nat) ^ r=2 ^ (8 * r):=by rw [Nat.pow_mul,p2_8]
  rw [hp] at hd ⊢
  rw [Nat.or_comm,Nat.mul_comm x,← Nat.two_pow_add_eq_or_of_lt hd]
  omega
 rw [BitVec.toNat_or,e1,e2,e3]
 show ((d+x * 256 ^ r:Nat):Int) % 4294967296=_
 omega
theorem pnO {l:List UInt8} {k:Nat} {b:UInt8} (hk:k<l.length) (hb:l[l.length - 1 - k]? =some b):natB (l.drop (l.length - (k+1)))=natB (l.drop (l.length - k))+b.toNat * 256 ^ k:=by
 have e:l.drop (l.length - (k+1))=b :: l.drop (l.length - k):=by
  obtain ⟨h,rfl⟩:=List.getElem?_eq_some_iff.1 hb
  have:l.length - (k+1)=l.length - 1 - k:=by omega
  rw [this,List.drop_eq_getElem_cons h,show l.length - 1 - k+1=l.length - k by omega]
 rw [e,pe7,List.length_drop,show l.length - (l.length - k)=k by omega]
 omega
theorem pil {l:List UInt8} {k:Nat} (hk:k≤l.length):natB (l.drop (l.length - k))<256 ^ k:=by
 have:=pdX (l.drop (l.length - k))
 rwa [List.length_drop,show l.length - (l.length - k)=k by omega] at this
set_option maxHeartbeats 2000000 in
theorem pbe (s:ByteArray) (w:World) (hs:s.size≤1000000000):Calls Tryz.prog 34 #[.string s] w (fun e w'=>∃ v',Hid (Wd w' v' (dw (natB (bs s))))∧e=.returned v'∧Upd [] [] w w'):=by
 obtain ⟨n4,hn4⟩:∃ n4,n4=(s.size+3) / 4:=⟨_,rfl⟩
 have hmk:=pbH w n4 (by omega)
 have q3:((s.size:Int)+3) / 4=(n4:Int):=by omega
 have hn4b:n4≤1000000000:=by omega
 have HN4:=Lib.hid hn4
 clear hn4
 go_enter Tryz.func34,Tryz.ntmps34
 go_wp2_with fail
 rw [q3]
 clear q3
 go_loopw [4,12] (fun _ i wr=>∃ k:Nat,i=.int .i64 (k:Int)∧k≤s.size∧Hid (∃ l,WB wr w.heap.size l∧l.length=n4∧okW l∧valW l=natB ((bs s).drop (s.size - k)))∧Hid (Upd [] [] w wr)) (fun _ i _=>s.size - (intOf i).toNat)
 case atStart =>
  refine ⟨0,rfl,Nat.zero_le _,⟨_,heap_alloc_new _ _,by simp,pnK _,?_⟩,(Upd.refl _ _).alloc _⟩
  rw [pgl,Nat.sub_zero,List.drop_of_length_le (by simp [pac])]
  rfl
 case round =>
  obtain ⟨k,rfl,hk,HL,HU⟩:=hrel
  by_cases hlt:k<s.size
  · obtain ⟨l,hb,hl,ho,hv⟩:=HL.out
    have hn4:=HN4.out
    obtain ⟨p,hp⟩:∃ p,p=s.size - 1 - k:=⟨_,rfl⟩
    obtain ⟨b,hbb⟩:∃ b,(bs s)[p]? =some b:=⟨_,List.getElem?_eq_getElem (by rw [pac];omega)⟩
    obtain ⟨q,hq⟩:∃ q,q=k / 4:=⟨_,rfl⟩
    obtain ⟨r,hr⟩:∃ r,r=k % 4:=⟨_,rfl⟩
    obtain ⟨d,hd⟩:∃ d,l[q]? =some d:=⟨_,List.getElem?_eq_getElem (by omega)⟩
    have hkq:k=4 * q+r:=by omega
    have hr4:r<4:=by omega
    have hb256:b.toNat<256:=b.toNat_lt
    have hlen:(bs s).length=s.size:=rfl
    have hlow:d<256 ^ r:=by
     have h1:=pnJ l q d hd
     have h2:natB ((bs s).drop (s.size - k))<256 ^ k:=pil (by show k≤s.size;omega)
     have e:(256:Nat) ^ k=4294967296 ^ q * 256 ^ r:=by rw [hkq,Nat.pow_add,Nat.pow_mul,pkx]
     rw [hv] at h1
     rw [e] at h2
     exact Nat.lt_of_mul_lt_mul_left (Nat.lt_of_le_of_lt h1 h2)
    have hval:valW (l.set q (d+b.toNat * 256 ^ r))=natB ((bs s).drop (s.size - (k+1))):=by
     have h1:=pnO (l:=bs s) (k:=k) (b:=b) (by rw [hlen];omega) (by rw [hlen,← hp];exact hbb)
     have e:(256:Nat) ^ k=4294967296 ^ q * 256 ^ r:=by rw [hkq,Nat.pow_add,Nat.pow_mul,pkx]
     rw [hlen] at h1
     rw [pkv l q d _ hd,hv,h1,e,Nat.mul_left_comm]
    obtain ⟨r8,hr8⟩:∃ r8,r8=r * 8:=⟨_,rfl⟩
    obtain ⟨n1,hn1⟩:∃ n1,n1=s.size - 1:=⟨_,rfl⟩
    have d1:(k:Int) / 4=(q:Int):=by omega
    have d1t:(k:Int).tdiv 4=(q:Int):=by rw [Int.tdiv_eq_ediv_of_nonneg (by omega)];exact d1
    have d1w:IntKind.i64.wrap ((k:Int).tdiv 4)=(q:Int):=by rw [d1t];exact pap (by omega) (by omega)
    have wq:IntKind.i64.wrap (q:Int)=(q:Int):=pap (by omega) (by omega)
    have wrr:IntKind.i64.wrap (r:Int)=(r:Int):=pap (by omega) (by omega)
    have wr8:IntKind.i64.wrap (r8:Int)=(r8:Int):=pap (by omega) (by omega)
    have wp1:IntKind.i64.wrap (p:Int)=(p:Int):=pap (by omega) (by omega)
    have d2:(k:Int) % 4=(r:Int):=by omega
    have d2t:(k:Int).tmod 4=(r:Int):=by rw [Int.tmod_eq_emod_of_nonneg (by omega)];exact d2
    have d2w:IntKind.i64.wrap ((k:Int).tmod 4)=(r:Int):=by rw [d2t];exact pap (by omega) (by omega)
    have d3:(r:Int) * 8=(r8:Int):=by omega
    have d3w:IntKind.i64.wrap ((r:Int) * 8)=(r8:Int):=by rw [d3];exact pap (by omega) (by omega)
    have e1:IntKind.i64.wrap ((s.size:Int) - 1)=(n1:Int):=by rw [pap (by omega) (by omega)];omega
    have e2:IntKind.i64.wrap ((n1:Int) - (k:Int))=(p:Int):=by rw [pap (by omega) (by omega)];omega
    have c0:=hb.cell hd
    have f0:=hb.frozen q
    have hix:=pg9 s p b hbb
    have i0:(0:Int)≤(k:Int):=by omega
    have i1:(k:Int)<(s.size:Int):=by omega
    have j0:(0:Int)≤(q:Int):=by omega
    have j1:(q:Int)<(n4:Int):=by omega
    have cv:IntKind.u32.wrap (b.toNat:Int)=(b.toNat:Int):=by show (b.toNat:Int) % 4294967296=_;omega
    have r0:(0:Int)≤(r8:Int):=by omega
    obtain ⟨x1,hx1⟩:∃ x1,x1=b.toNat * 256 ^ r:=⟨_,rfl⟩
    obtain ⟨dn,hdn⟩:∃ dn,dn=d+x1:=⟨_,rfl⟩
    have hor:bits .or .u32 (d:Int) (x1:Int)=(dn:Int):=by rw [hdn,hx1];exact or32 hlow hb256 hr4
    have hx1l:x1<4294967296:=by
     rw [hx1]
     have h4:r=0∨r=1∨r=2∨r=3:=by omega
     have h2:(256:Nat) ^ 2=65536:=by decide
     have h3:(256:Nat) ^ 3=16777216:=by decide
     rcases h4 with rfl | rfl | rfl | rfl
     · omega
     · omega
     · rw [h2];omega
     · rw [h3];omega
    have s1:min r8 32=r8:=by omega
    have s0:(b.toNat:Int) * 2 ^ r8=(x1:Int):=by
     rw [hx1,hr8,Int.natCast_mul,Int.natCast_pow,Nat.mul_comm r 8,Int.pow_mul]
     rfl
    have s2:(b.toNat:Int) * 2 ^ r8 % 4294967296=(x1:Int):=by rw [s0];omega
    have s3:IntKind.u32.wrap ((b.toNat:Int) * 2 ^ r8)=(x1:Int):=s2
    have cv2:(b.toNat:Int) % 4294967296=(b.toNat:Int):=by omega
    have hsh:Op.shift .shl .u32 (b.toNat:Int) .i64 (r8:Int)=pure (.int .u32 (x1:Int)):=by
     unfold Op.shift
     rw [if_neg (by omega)]
     show pure (Value.int .u32 (IntKind.u32.wrap ((b.toNat:Int) * 2 ^ (min r8 32))))=_
     rw [s1,s3]
    have HA2:Hid (∃ l,WB (wr.setCell ⟨w.heap.size,q,none⟩ (.int .u32 (dn:Int))).drew w.heap.size l∧l.length=n4∧okW l∧valW l=natB ((bs s).drop (s.size - (k+1)))):=by
     refine ⟨l.set q dn,(hb.set q dn).upd (Upd.refl _ _).drew,by rw [List.length_set];exact hl,okW_set ho ?_,by rw [hdn,hx1];exact hval⟩
     have h4:r=0∨r=1∨r=2∨r=3:=by omega
     have h2:(256:Nat) ^ 2=65536:=by decide
     have h3:(256:Nat) ^ 3=16777216:=by decide
     rcases h4 with rfl | rfl | rfl | rfl
     · omega
     · omega
     · rw [h2] at hlow hx1;omega
     · rw [h3] at hlow hx1;omega
    have HU2:Hid (Upd [] [] w (wr.setCell ⟨w.heap.size,q,none⟩ (.int .u32 (dn:Int))).drew):=(HU.out.setNew (p:=⟨w.heap.size,q,none⟩) (Nat.le_refl _) _).drew
    have HX:=Lib.hid (And.intro hx1 (And.intro hdn s0))
    clear hx1 hdn s0
    have HALL:=Lib.hid (And.intro hp (And.intro hq (And.intro hr (And.intro hr8 (And.intro hn1 hn4)))))
    have HV:=Lib.hid (And.intro hval (And.intro hlow (And.intro hl ho)))
    have HB:=Lib.hid hb
    clear hp hq hr hr8 hn1 hn4 hval hlow hl ho hv hb hbb hkq hlen
    go_wp2_with fail
    (first | go_region_with (fail) | fail)
    all_goals
     go_wp2_with fail
     exact ⟨⟨k+1,by go_num,by omega,HA2,HU2⟩,by simp [intOf];omega⟩
  · obtain rfl:k=s.size:=by omega
    obtain ⟨l,hb,hl,ho,hv⟩:=HL.out
    rw [Nat.sub_self,List.drop_zero] at hv
    have HT:=Lib.hid (pcq _ l wr (hb.slice (by rw [hl];simp only [maxLen];omega)) ho)
    rw [hl,hv] at HT
    clear hb hl ho hv hlt HL
    go_wp2_with fail
    refine HT.out.mono ?_
    rintro e w1 ⟨v,HV,rfl,rfl⟩
    go_wp2_with fail
    go_ret
    exact ⟨v,HV,rfl,HU.out⟩
theorem Wd.new {w:World} (l:List Nat) (hl:l.length≤maxLen):Wd (w.alloc (.cells (pco l).toArray 129)) (.slice (some ⟨w.heap.size,0,none⟩) l.length l.length) l :=
 WB.slice (heap_alloc_new _ _) hl
set_option maxHeartbeats 1000000 in
theorem pim (n:Nat) (hn:n<18446744073709551616) (w:World):Calls Tryz.prog 32 #[.int .u64 (n:Int)] w (fun e w'=>∃ v',Hid (Wd w' v' (dw n))∧e=.returned v'∧Upd [] [] w w'):=by
 obtain ⟨a,ha⟩:∃ a,a=n % 4294967296:=⟨_,rfl⟩
 obtain ⟨b,hb⟩:∃ b,b=n / 4294967296:=⟨_,rfl⟩
 have e1:(n:Int) % 4294967296=(a:Int):=by omega
 have e2:(n:Int) / 4294967296=(b:Int):=by omega
 have e2f:(n:Int).fdiv 4294967296=(b:Int):=by rw [Int.fdiv_eq_ediv_of_nonneg _ (by omega)];exact e2
 have e3:(b:Int) % 4294967296=(b:Int):=by omega
 have hN:=Wd.new (w:=w) [a,b] (by simp [maxLen])
 have hv:valW [a,b]=n:=by simp [valW];omega
 have hT:=pcq _ [a,b] _ hN (fun d hd=>by simp at hd;omega)
 rw [hv] at hT
 have HT:=Lib.hid hT
 clear hN hv hT ha hb
 go_enter Tryz.func32,Tryz.ntmps32
 go_wp2_with fail
 refine HT.out.mono ?_
 rintro e w1 ⟨v,HV,rfl,rfl⟩
 go_wp2_with fail
 go_ret
 exact ⟨v,HV,rfl,(Upd.refl _ _).alloc _⟩
theorem set_mid {α:Type} (m:Nat) (z b:α) (T:List α):(List.replicate (m+1) z ++ T).set m b=List.replicate m z ++ b :: T:=by
 rw [List.replicate_succ',List.append_assoc,List.set_append_right _ _ (by simp)]
 simp
theorem pgm (w:World) (n:Nat) (hn:n≤1000000000):(Instr.makeSlice 124 (.int .i64 (n:Int)) (.int .i64 (n:Int))).run Tryz.prog w=.ok (.slice (some ⟨w.heap.size,0,none⟩) n n) (w.alloc (.cells (byteVals (List.replicate n 0)).toArray 5)):=by
 have h:(Tryz.prog.info? 5).map (fun i=>(i.zero,i.size,i.bytes))=some (some (.int .u8 0),1,1):=by kernel_rfl
 obtain ⟨i0,hi,he⟩:=Option.map_eq_some_iff.1 h
 simp only [Prod.mk.injEq] at he
 have:=run_make (P:=Tryz.prog) w 124 5 i0 (.int .u8 0) Tryz.underlying124 hi he.1 .i64 .i64 n n (by omega) (by omega) (by rw [he.2.2];omega) (by omega)
 rw [this,he.2.1]
 have hm:madeCells (Value.int .u8 0).cells n=(byteVals (List.replicate n 0)).toArray:=by
  apply Array.ext
  · simp [madeCells,byteVals]
  · intro i h1 h2
    simp [madeCells,byteVals,pbt,Value.cells,Nat.mod_one]
 simp only [Int.toNat_natCast,Nat.mul_one,hm]
set_option maxHeartbeats 2000000 in
theorem paQ (v:Value) (l:List Nat) (w:World) (h:Wd w v l) (ho:okW l) (hl:l.length≤100000):Calls Tryz.prog 31 #[v] w (pdb (valW l) w):=by
 obtain ⟨ao,cap,rfl,hc1,hc2⟩:=h.form
 obtain ⟨n,hn⟩:∃ n,n=l.length:=⟨_,rfl⟩
 rw [← hn] at h hc1 hl ⊢
 obtain ⟨m4,hm4⟩:∃ m4,m4=4 * n:=⟨_,rfl⟩
 have hmk:=pgm w m4 (by omega)
 have q3:4 * (n:Int)=(m4:Int):=by omega
 have HM4:=Lib.hid hm4
 have HH:=Lib.hid h
 have HN:=Lib.hid hn
 have hmb:m4≤400000:=by omega
 clear hm4 h hn
 go_enter Tryz.func31,Tryz.ntmps31
 go_wp2_with fail
 clear q3
 go_loopw [4,11] (fun _ i wr=>∃ k:Nat,i=.int .i64 (k:Int)∧k≤m4∧Hid (AB 5 wr w.heap.size (List.replicate (m4 - k) 0 ++ beN (valW l) k))∧Hid (Upd [] [] w wr)) (fun _ i _=>m4 - (intOf i).toNat)
 case atStart =>
  refine ⟨0,rfl,Nat.zero_le _,?_,(Upd.refl _ _).alloc _⟩
  rw [Nat.sub_zero,beN,List.append_nil]
  exact heap_alloc_new _ _
 case round =>
  obtain ⟨k,rfl,hk,HA,HU⟩:=hrel
  by_cases hlt:k<m4
  · obtain ⟨m,hm⟩:∃ m,m4 - k=m+1:=⟨m4 - k - 1,by omega⟩
    obtain ⟨q,hq⟩:∃ q,q=k / 4:=⟨_,rfl⟩
    obtain ⟨r,hr⟩:∃ r,r=k % 4:=⟨_,rfl⟩
    obtain ⟨r8,hr8⟩:∃ r8,r8=r * 8:=⟨_,rfl⟩
    have hm4:=HM4.out
    obtain ⟨d,hd⟩:∃ d,l[q]? =some d:=⟨_,List.getElem?_eq_getElem (by have:=HN.out;omega)⟩
    obtain ⟨g,hao,c0⟩:=(HH.out.upd HU.out).get hd
    subst hao
    have hkq:k=4 * q+r:=by omega
    have hby:=poW ho hd (r:=r) (by omega)
    rw [← hkq,Nat.mul_comm 8 r,← hr8] at hby
    obtain ⟨b,hb⟩:∃ b,b=UInt8.ofNat (pnL (valW l) k):=⟨_,rfl⟩
    have hbn:b.toNat=d / 2 ^ r8 % 256:=by rw [hb,UInt8.toNat_ofNat',← hby];exact Nat.mod_eq_of_lt (pkw _ _)
    have d1:(k:Int) / 4=(q:Int):=by omega
    have d2:(k:Int) % 4=(r:Int):=by omega
    have d3:(r:Int) * 8=(r8:Int):=by omega
    have s1:min r8 32=r8:=by omega
    have s2:(d:Int) / 2 ^ r8 % 256=(b.toNat:Int):=by
     rw [hbn,Int.natCast_emod,Int.natCast_ediv,Int.natCast_pow]
     rfl
    have e1:(m4:Int) - 1 - (k:Int)=(m:Int):=by omega
    have f0:=HA.out.frozen m
    obtain ⟨b0,hb0⟩:∃ b0,(List.replicate (m4 - k) 0 ++ beN (valW l) k)[m]? =some b0:=⟨_,List.getElem?_eq_getElem (by rw [List.length_append,List.length_replicate];omega)⟩
    have cb:=HA.out.cell hb0
    have i0:(0:Int)≤(k:Int):=by omega
    have i1:(k:Int)<(m4:Int):=by omega
    have j0:(0:Int)≤(q:Int):=by omega
    have j1:(q:Int)<(n:Int):=by omega
    have m0:(0:Int)≤(m:Int):=by omega
    have m1:(m:Int)<(m4:Int):=by omega
    have r0:(0:Int)≤(r8:Int):=by omega
    have HA2:Hid (AB 5 (wr.setCell ⟨w.heap.size,m,none⟩ (.int .u8 (b.toNat:Int))) w.heap.size (List.replicate (m4 - (k+1)) 0 ++ beN (valW l) (k+1))):=by
     have h1:=HA.out.set m b
     rw [hm,set_mid,hb] at h1
     rw [show m4 - (k+1)=m by omega,beN,hb]
     exact h1
    have HU2:Hid (Upd [] [] w (wr.setCell ⟨w.heap.size,m,none⟩ (.int .u8 (b.toNat:Int)))):=HU.out.setNew (p:=⟨w.heap.size,m,none⟩) (Nat.le_refl _) _
    have HALL:=Lib.hid (And.intro hm (And.intro hq (And.intro hr (And.intro hr8 hm4))))
    have HB:=Lib.hid (And.intro hb (And.intro hbn hby))
    clear hm hq hr hr8 hm4 hb hbn hby hkq hd hb0
    go_wp2_with fail
    exact ⟨⟨k+1,by go_num,by omega,HA2,HU2⟩,by simp [intOf];omega⟩
  · obtain rfl:k=m4:=by omega
    have hA:=HA.out
    rw [Nat.sub_self,List.replicate_zero,List.nil_append] at hA
    obtain ⟨z,hz⟩:∃ z:ByteArray,bs z=beN (valW l) k:=⟨⟨(beN (valW l) k).toArray⟩,rfl⟩
    have hcv:=hA.text z hz k
    rw [pg7] at hcv
    have hzs:z.size≤1000000000000:=by rw [← pac,hz,pg7];omega
    have hS:=pnM z wr hzs
    have hnat:natB (bs z)=valW l:=by
     rw [hz]
     refine pij ?_
     have h1:=pnI ho
     rw [← HN.out] at h1
     rw [HM4.out,Nat.pow_mul,pkx]
     exact h1
    rw [hnat] at hS
    have HS:=Lib.hid hS
    clear hA hz hS hnat hzs HA hlt
    go_wp2_with fail
    refine HS.out.mono ?_
    rintro e w1 ⟨r,HR,rfl,rfl⟩
    go_wp2_with fail
    go_ret
    exact ⟨r,HR,rfl,HU.out⟩
theorem pgn:∀ b:List UInt8,pbh (hexL b)=b
 | []=>rfl
 | b :: r=>by
  have hb:b.toNat<256:=b.toNat_lt
  obtain ⟨e1,_⟩:=phN (pck (b.toNat / 16) (by omega))
  obtain ⟨e2,_⟩:=phN (pck (b.toNat % 16) (by omega))
  rw [hexL,pbh,pgn r,e1,e2]
  congr 1
  apply UInt8.toNat_inj.1
  rw [UInt8.toNat_ofNat']
  omega
theorem plt {t:List UInt8} {m N:Nat} {c:UInt8} (hc:t[2 * m]? =some c) (hm:m<N):(pbh (t.take (2 * m)) ++ List.replicate (N - m) 0).set m (dv c)=pbh (t.take (2 * m+1)) ++ List.replicate (N - (m+1)) 0:=by
 have hl:=(List.getElem?_eq_some_iff.1 hc).1
 have e0:(t.take (2 * m)).length=2 * m:=by rw [List.length_take];omega
 have e1:t.take (2 * m+1)=t.take (2 * m) ++ [c]:=by rw [List.take_add_one,hc];rfl
 have e2:(pbh (t.take (2 * m))).length=m:=by rw [pbl,e0];omega
 rw [e1,pbZ _ _ (by rw [e0];omega),List.set_append_right _ _ (by omega),e2,Nat.sub_self,show N - m=(N - (m+1))+1 by omega,List.replicate_succ,List.set_cons_zero,List.append_assoc]
 rfl
theorem pnP {t:List UInt8} {m N:Nat} {a c:UInt8} (ha:t[2 * m]? =some a) (hc:t[2 * m+1]? =some c):(pbh (t.take (2 * m+1)) ++ List.replicate (N - (m+1)) 0)[m]? =some (dv a)∧(pbh (t.take (2 * m+1)) ++ List.replicate (N - (m+1)) 0).set m (UInt8.ofNat (16 * (dv a).toNat+(dv c).toNat))=pbh (t.take (2 * m+1+1)) ++ List.replicate (N - (m+1)) 0:=by
 have hl:=(List.getElem?_eq_some_iff.1 hc).1
 have e0:(t.take (2 * m)).length=2 * m:=by rw [List.length_take];omega
 have e1:t.take (2 * m+1)=t.take (2 * m) ++ [a]:=by rw [List.take_add_one,ha];rfl
 have e3:t.take (2 * m+1+1)=t.take (2 * m) ++ [a,c]:=by rw [List.take_add_one,hc,e1];simp
 have e2:(pbh (t.take (2 * m))).length=m:=by rw [pbl,e0];omega
 rw [e3,e1,pbZ _ _ (by rw [e0];omega),pbZ _ _ (by rw [e0];omega),List.append_assoc,List.append_assoc]
 refine ⟨?_,?_⟩
 · rw [List.getElem?_append_right (by omega),e2,Nat.sub_self]
   rfl
 · rw [List.set_append_right _ _ (by omega),e2,Nat.sub_self]
   rfl
def prL (l:List UInt8) (w:World) (e:Ending) (w':World):Prop:=∃ (r:ByteArray) (ok:Bool),Hid (∀ b,l=hexL b→ok=true∧bs r=b)∧r.size≤l.length∧e=.returned (.tuple #[.string r,.bool ok])∧Upd [] [] w w'
theorem prb {l:List UInt8} {c:UInt8} (hc:c∈l) (h:digH c=none):∀ b,l≠hexL b:=by
 intro b e
 obtain ⟨n,hn⟩:=pdm b c (by rw [← e];exact hc)
 rw [h] at hn
 cases hn
set_option maxHeartbeats 2000000 in
theorem pha (s:ByteArray) (hs:s.size≤1000000000) (w:World):Calls Tryz.prog 232 #[.string s] w (prL (bs s) w):=by
 obtain ⟨N,hN⟩:∃ N,N=s.size / 2:=⟨_,rfl⟩
 have hmk:=pgm w N (by omega)
 obtain ⟨gB,hgB⟩:∃ g,w.heap.size=g:=⟨_,rfl⟩
 obtain ⟨w0,hw0⟩:∃ W,w.alloc (.cells (byteVals (List.replicate N 0)).toArray 5)=W:=⟨_,rfl⟩
 have R0:Hid (AB 5 w0 gB (List.replicate N 0)):=by
  show w0.heap[gB]? =_
  rw [← hgB,← hw0];exact heap_alloc_new _ _
 have U0:Hid (Upd [] [] w w0):=by rw [← hw0];exact (Upd.refl _ _).alloc _
 have hq1:(s.size:Int).tdiv 2=(N:Int):=by rw [Int.tdiv_eq_ediv_of_nonneg (by omega)];omega
 have hq2:(s.size:Int) / 2=(N:Int):=by omega
 have hN2:N≤500000000:=by omega
 have HN:Hid (2 * N≤s.size∧s.size≤2 * N+1):=by constructor <;> omega
 have HG:Hid (w.heap.size≤gB):=Nat.le_of_eq hgB
 rw [hw0,hgB] at hmk
 clear hN hs
 go_enter Tryz.func232,Tryz.ntmps232
 go_wp2_with fail
 clear hmk
 go_loopw [5,6,14] (fun _ _ i wr=>∃ k:Nat,i=.int .i64 (k:Int)∧k≤2 * N∧Hid (AB 5 wr gB (pbh ((bs s).take k) ++ List.replicate (N - (k+1) / 2) 0))∧Hid (pfi ((bs s).take k))∧Hid (Upd [] [] w wr)) (fun _ _ i _=>2 * N - (intOf i).toNat)
 case atStart=>exact ⟨0,rfl,Nat.zero_le _,R0,fun c h=>by simp at h,U0.out⟩
 case round =>
  obtain ⟨k,rfl,hk,HA,HD,HU⟩:=hrel
  by_cases hlt:k<2 * N
  · have hks:k<s.size:=by have:=HN.out;omega
    have hc:=pdl s k hks
    have HC:=Lib.hid hc
    have i0:(0:Int)≤(k:Int):=by omega
    have i1:(k:Int)<(s.size:Int):=by omega
    have l1:(k:Int)<2 * (N:Int):=by omega
    clear hc
    cases hd:digH s[k] with
    | none =>
     have HNO:=Lib.hid (prb (List.mem_of_getElem? HC.out) hd)
     have hct:=pki hd
     clear hd
     go_wp2_with fail
     refine (hct wr).mono ?_
     rintro e w1 ⟨rfl,rfl⟩
     go_wp2_with fail
     go_ret2
     exact ⟨⟨#[]⟩,false,fun b e=>absurd e (HNO.out b),Nat.zero_le _,rfl,HU.out⟩
    | some n =>
     obtain ⟨hdv,hn16⟩:=phN hd
     have hct:=pkh hd
     have HD2:Hid (pfi ((bs s).take (k+1))):=by
      intro c hcm
      rw [List.take_add_one,HC.out] at hcm
      rcases List.mem_append.1 hcm with h | h
      · exact HD.out c h
      · rw [show c=s[k] by simpa using h]
        exact ⟨n,hd⟩
     have HDV:=Lib.hid hdv
     clear hd hdv
     by_cases hev:k % 2=0
     · obtain ⟨m,rfl⟩:∃ m,k=2 * m:=⟨k / 2,by omega⟩
       have hA2:=(HA.out.set m (dv s[2 * m])).upd (Upd.refl [] _)
       rw [show (2 * m+1) / 2=m by omega,plt HC.out (by omega)] at hA2
       have hcell:=HA.out.cell (j:=m) (b:=0) (by
        have hl:(pbh ((bs s).take (2 * m))).length=m:=by rw [pbl,List.length_take,pac];omega
        rw [List.getElem?_append_right (by omega),hl,Nat.sub_self,List.getElem?_replicate,if_pos (by omega)])
       have hfz:=HA.out.frozen m
       have e1:((2 * m:Nat):Int).tdiv 2=(m:Int):=by rw [Int.tdiv_eq_ediv_of_nonneg (by omega)];omega
       have e2:((2 * m:Nat):Int) / 2=(m:Int):=by omega
       have b0:(0:Int)≤(m:Int):=by omega
       have b1:(m:Int)<(N:Int):=by omega
       rw [show N - (m+1)=N - (2 * m+1+1) / 2 by omega] at hA2
       have HA2:=Lib.hid hA2
       clear hA2 hev
       go_wp2_with fail
       refine (hct wr).mono ?_
       rintro e w1 ⟨rfl,rfl⟩
       have vb:Go.bits .or .u8 0 (n:Int)=((dv s[2 * m]).toNat:Int):=by
        have h:=peJ 0 (by omega) n hn16
        rw [HDV.out]
        simpa using h
       go_wp2_with fail
       exact ⟨⟨2 * m+1,by go_num,by omega,HA2.out,HD2.out,HU.out.setNew (p:=⟨_,_,none⟩) HG.out _⟩,by simp [intOf];omega⟩
     · obtain ⟨m,rfl⟩:∃ m,k=2 * m+1:=⟨k / 2,by omega⟩
       have ha0:=pdl s (2 * m) (by omega)
       obtain ⟨f1,f2⟩:=pnP (N:=N) ha0 HC.out
       obtain ⟨o,ho⟩:∃ o,digH (s[2 * m]'(by omega))=some o:=HD.out (s[2 * m]'(by omega)) (by
        refine List.mem_of_getElem? (i:=2 * m) ?_
        rw [List.getElem?_take_of_lt (by omega)]
        exact ha0)
       obtain ⟨hov,ho16⟩:=phN ho
       have hA:=HA.out
       rw [show (2 * m+1+1) / 2=m+1 by omega] at hA
       have hcell:=hA.cell f1
       rw [hov] at hcell
       have hA2:=hA.set m (UInt8.ofNat (16 * (dv (s[2 * m]'(by omega))).toNat+(dv s[2 * m+1]).toNat))
       rw [f2,hov,HDV.out] at hA2
       have hfz:=HA.out.frozen m
       have e1:((2 * m+1:Nat):Int).tdiv 2=(m:Int):=by rw [Int.tdiv_eq_ediv_of_nonneg (by omega)];omega
       have e2:((2 * m+1:Nat):Int) / 2=(m:Int):=by omega
       have e3:(2 * (m:Int)+1) / 2=(m:Int):=by omega
       have b0:(0:Int)≤(m:Int):=by omega
       have b1:(m:Int)<(N:Int):=by omega
       rw [show N - (m+1)=N - (2 * m+1+1+1) / 2 by omega] at hA2
       have HA2:=Lib.hid hA2
       clear hA2 hA hev f1 f2 ha0 ho hov HA
       go_wp2_with fail
       refine (hct wr).mono ?_
       rintro e w1 ⟨rfl,rfl⟩
       have vb:Go.bits .or .u8 ((o:Int) * 16) (n:Int)=((UInt8.ofNat (16 * o+n)).toNat:Int):=by
        have h:=peJ o ho16 n hn16
        rw [show ((16 * o:Nat):Int)=(o:Int) * 16 by omega] at h
        rw [h,UInt8.toNat_ofNat',Nat.mod_eq_of_lt (by omega)]
       go_wp2_with fail
       exact ⟨⟨2 * m+1+1,by go_num,by omega,HA2.out,HD2.out,HU.out.setNew (p:=⟨_,_,none⟩) HG.out _⟩,by simp [intOf];omega⟩
  · obtain rfl:k=2 * N:=by omega
    have hA:=HA.out
    rw [show N - (2 * N+1) / 2=0 by omega,List.replicate_zero,List.append_nil] at hA
    obtain ⟨r,hr⟩:∃ r,pbh ((bs s).take (2 * N))=r:=⟨_,rfl⟩
    rw [hr] at hA
    have hrl:r.length=N:=by rw [← hr,pbl,List.length_take,pac];have:=HN.out;omega
    obtain ⟨z,hz⟩:∃ z:ByteArray,bs z=r:=⟨⟨r.toArray⟩,pc8 _⟩
    have hcv:=hA.text z hz N
    rw [hrl] at hcv
    have HR:=Lib.hid hr
    have HZ:=Lib.hid hz
    have HRL:=Lib.hid hrl
    clear hr hz hrl hA HA hlt hk
    by_cases hev:s.size % 2=0
    · have e1:(s.size:Int).tmod 2=0:=by rw [Int.tmod_eq_emod_of_nonneg (by omega)];omega
      have HEV:=Lib.hid hev
      clear hev
      go_wp2_with fail
      go_ret2
      refine ⟨z,true,fun b hb=>⟨rfl,?_⟩,?_,rfl,HU.out⟩
      · rw [HZ.out,← HR.out,List.take_of_length_le (by rw [pac];have:=HN.out;have:=HEV.out;omega),hb,pgn]
      · rw [← pac,HZ.out,HRL.out,pac];have:=HN.out;omega
    · have e1:(s.size:Int).tmod 2=1:=by rw [Int.tmod_eq_emod_of_nonneg (by omega)];omega
      have HEV:=Lib.hid hev
      clear hev
      go_wp2_with fail
      go_ret2
      refine ⟨z,false,fun b hb=>?_,?_,rfl,HU.out⟩
      · have h:=congrArg List.length hb
        rw [pac,pa6] at h
        exact absurd (show s.size % 2=0 by omega) HEV.out
      · rw [← pac,HZ.out,HRL.out,pac];have:=HN.out;omega
end Go.Proofs.YtheobkejohifaaaGreatDoor
