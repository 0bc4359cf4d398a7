/- sortesref06.Text, number, Read and what follows. -/
import Derived.Test.YtheobkejohifaaaGreatDoorHAJ
import Derived.Test.YtheobkejohifaaaGreatDoorHAK
import Derived.Test.YtheobkejohifaaaGreatDoorHAU
import Derived.Lib.AsciiSet
import Derived.Test.YtheobkejohifaaaGreatDoorHAO
import Derived.Test.YtheobkejohifaaaGreatDoorHAT
import Derived.Test.YtheobkejohifaaaGreatDoorHAA
import Derived.Test.YtheobkejohifaaaGreatDoorHAW
import Derived.Test.YtheobkejohifaaaGreatDoorHAN
import Derived.Test.YtheobkejohifaaaGreatDoorHAS
import Derived.Test.YtheobkejohifaaaGreatDoorHAD
import Derived.RangeFuncRecord
import Derived.RangeFuncSeq
import Derived.RangeFuncCalls
import Derived.TacticsInMore
import Derived.LoopIn
import Derived.BigFrameIn
namespace Go.Proofs.YtheobkejohifaaaGreatDoor
open Go.RowKit
set_option maxRecDepth 100000
set_option maxHeartbeats 1000000 in
theorem pll (r s:Int) (w:World) (hr:pab r) (hs:pab s):Calls Tryz.prog 71 #[.agg #[.int .i64 r,.int .i64 s]] w (MkS (pn6 r s) w):=by
 have h1:=ProofAt.start w r s
 have h4:=h1.upd (Upd.refl _ _).drew
 have k4:=h4.cells
 have hlr:=itoa_len r hr
 have hls:=itoa_len s hs
 go_enter Tryz.func71,Tryz.ntmps71
 go_wp2_with fail
 clear h1
 go_region_held3 (fun wp=>wp.cell? ⟨w.heap.size,0,none⟩=some (.int .i64 r)∧wp.cell? ⟨w.heap.size,1,none⟩=some (.int .i64 s)) (first | exact k4 | assumption)
  (first
   | (go_at_call 119;((with_reducible refine (pb8 r _ hr).mono ?_);rintro e wq ⟨y1,HY1,hy1,rfl,hq⟩;have t1:¬ 9223372036854775807<y1.size+1:=(by omega);have g1:=h4.upd hq;have kq:=g1.cells;clear hq))
   | (go_at_call 119;((with_reducible refine (pb8 s _ hs).mono ?_);rintro e wq ⟨y2,HY2,hy2,rfl,hq⟩;have t2:¬ 9223372036854775807<y1.size+1+y2.size:=(by omega);have g2:=g1.upd hq;have kq:=g2.cells;clear hq)))
 go_wp2_with fail
 go_ret
 refine ⟨_,?_,?_,rfl,g2.up⟩
 · show _=_
   rw [pae,pae,HY1.out,HY2.out]
   rfl
 · have e1:=paT HY1.out
   have e2:=paT HY2.out
   have e3:(ByteArray.mk #[46]).size=1:=rfl
   simp [ByteArray.size_append,pn6,e1,e2,e3]
   omega
def pjn (S:List UInt8) (s r:ByteArray):Prop:=((∀ c∈bs s,c∈S) ↔ r.size=0)∧(r.size≠0→∃ c∈bs r,c ∉ S)
def pqa (w:World) (b:Nat) (S:List UInt8):Prop:=∀ x:UInt8,w.cell? ⟨b,x.toNat,none⟩=some (.bool (S.contains x))
def poL:Value→Nat
 | .string t=>t.size
 | _=>0
theorem all_nil {S:List UInt8} {t:ByteArray} (h:t.size=0):∀ c∈bs t,c∈S:=by
 intro c hc
 have:bs t=[]:=List.length_eq_zero_iff.1 (by rw [pac];exact h)
 rw [this] at hc
 cases hc
theorem pgg {S:List UInt8} {s t:ByteArray} (HA:(∀ c∈bs s,c∈S) ↔ (∀ c∈bs t,c∈S)) {x:UInt8} (hx:x∈bs t) (hn:S.contains x=false):pjn S s t:=by
 have hxn:x ∉ S:=by
  intro h
  have:=List.contains_iff_mem.2 h
  rw [hn] at this
  cases this
 refine ⟨⟨fun h=>absurd (HA.1 h x hx) hxn,fun h=>?_⟩,fun _=>⟨x,hx,hxn⟩⟩
 have:bs t=[]:=List.length_eq_zero_iff.1 (by rw [pac];exact h)
 rw [this] at hx
 cases hx
theorem ph5 {S:List UInt8} {s t:ByteArray} (HA:(∀ c∈bs s,c∈S) ↔ (∀ c∈bs t,c∈S)) (h:t.size=0):pjn S s t:=⟨⟨fun _=>h,fun _=>HA.2 (all_nil h)⟩,fun hn=>absurd h hn⟩
theorem pnm {S:List UInt8} {t:ByteArray} (h:0<t.size) (hx:S.contains t[0]=true):(∀ c∈bs t,c∈S) ↔ (∀ c∈bs (t.extract 1 t.size),c∈S):=by
 rw [pgN,pmy t h]
 simp only [List.mem_cons,List.drop_succ_cons,List.drop_zero]
 exact ⟨fun k c hc=>k c (.inr hc),fun k c hc=>hc.elim (fun e=>by rw [e];exact List.contains_iff_mem.1 hx) (k c)⟩
theorem pqb (t:ByteArray) (h:0<t.size):bs t=bs (t.extract 0 (t.size - 1)) ++ [t[t.size - 1]]:=by
 rw [piY]
 have hg:=pdl t (t.size - 1) (by omega)
 have h2:(bs t).take (t.size - 1+1)=(bs t).take (t.size - 1) ++ [t[t.size - 1]]:=by rw [List.take_add_one,hg];rfl
 rw [show t.size - 1+1=t.size by omega,List.take_of_length_le (by rw [pac];omega)] at h2
 exact h2
theorem poM {S:List UInt8} {t:ByteArray} (h:0<t.size) (hx:S.contains (t[t.size - 1]'(by omega))=true):(∀ c∈bs t,c∈S) ↔ (∀ c∈bs (t.extract 0 (t.size - 1)),c∈S):=by
 rw [pqb t h]
 simp only [List.mem_append,List.mem_singleton]
 exact ⟨fun k c hc=>k c (.inl hc),fun k c hc=>hc.elim (k c) (fun e=>by rw [e];exact List.contains_iff_mem.1 hx)⟩
def pq6 (S:List UInt8) (s:ByteArray) (w:World) (e:Ending) (w':World):Prop:=∃ r:ByteArray,Hid (pjn S s r)∧r.size≤s.size∧e=.returned (.string r)∧w=w'
theorem pjo (S:List UInt8) (s:ByteArray) (b:Nat) (w:World) (hb:pqa w b S) (_hs:s.size≤1000000000):Calls Tryz.prog 168 #[.string s,.pointer (some ⟨b,0,none⟩)] w (pq6 S s w):=by
 have HC:=Lib.hid (fun x:UInt8=>Tryz.asciiSet_contains b x (S.contains x) w (hb x))
 clear hb
 go_enter Tryz.func168,Tryz.ntmps168
 go_wp2_with fail
 go_loop [0] (fun v=>∃ (t:ByteArray),v=.string t∧t.size≤s.size∧Hid ((∀ c∈bs s,c∈S) ↔ (∀ c∈bs t,c∈S))) (fun v=>poL v)
 case atStart=>exact ⟨s,rfl,Nat.le_refl _,Iff.rfl⟩
 case round =>
  obtain ⟨t,rfl,hts,HA⟩:=hrel
  by_cases hlt:0<t.size
  · go_wp2_with fail
    refine (HC.out t[0]).mono ?_
    rintro e w' ⟨rfl,rfl⟩
    by_cases hx:S.contains t[0]=true
    · have HA2:Hid ((∀ c∈bs s,c∈S) ↔ (∀ c∈bs (t.extract 1 t.size),c∈S)):=HA.out.trans (pnm hlt hx)
      have hz:(t.extract 1 t.size).size=t.size - 1:=by rw [ByteArray.size_extract];omega
      rw [hx]
      clear hx HA
      go_wp2_with fail
      exact ⟨⟨_,rfl,by omega,HA2⟩,by simp only [poL];omega⟩
    · have hx:S.contains t[0]=false:=by rw [← Bool.not_eq_true];exact hx
      have HT:Hid (pjn S s t):=pgg HA.out (by rw [pmy t hlt];exact List.mem_cons_self) hx
      rw [hx]
      clear hx HA
      go_wp2_with fail
      go_ret
      exact ⟨t,HT,hts,rfl,rfl⟩
  · have HT:Hid (pjn S s t):=ph5 HA.out (by omega)
    go_wp2_with fail
    go_ret
    exact ⟨t,HT,hts,rfl,rfl⟩
theorem ph6 (S:List UInt8) (s:ByteArray) (b:Nat) (w:World) (hb:pqa w b S) (hs:s.size≤1000000000):Calls Tryz.prog 217 #[.string s,.pointer (some ⟨b,0,none⟩)] w (pq6 S s w):=by
 have HC:=Lib.hid (fun x:UInt8=>Tryz.asciiSet_contains b x (S.contains x) w (hb x))
 clear hb
 go_enter Tryz.func217,Tryz.ntmps217
 go_wp2_with fail
 go_loop [0] (fun v=>∃ (t:ByteArray),v=.string t∧t.size≤s.size∧Hid ((∀ c∈bs s,c∈S) ↔ (∀ c∈bs t,c∈S))) (fun v=>poL v)
 case atStart=>exact ⟨s,rfl,Nat.le_refl _,Iff.rfl⟩
 case round =>
  obtain ⟨t,rfl,hts,HA⟩:=hrel
  by_cases hlt:0<t.size
  · obtain ⟨z,hz⟩:∃ z,t.size - 1=z:=⟨_,rfl⟩
    have hzt:z<t.size:=by omega
    have wz:IntKind.i64.wrap ((t.size:Int) - 1)=(z:Int):=(pap (by omega) (by omega)).trans (by omega)
    go_wp2_with fail
    refine (HC.out t[z]).mono ?_
    rintro e w' ⟨rfl,rfl⟩
    by_cases hx:S.contains t[z]=true
    · have HA2:Hid ((∀ c∈bs s,c∈S) ↔ (∀ c∈bs (t.extract 0 z),c∈S)):=by
       have h:=poM hlt (S:=S) (by simp only [hz];exact hx)
       rw [hz] at h
       exact HA.out.trans h
      have hzz:(t.extract 0 z).size=z:=by rw [ByteArray.size_extract];omega
      rw [hx]
      clear hx HA
      go_wp2_with fail
      exact ⟨⟨_,rfl,by omega,HA2⟩,by simp only [poL];omega⟩
    · have hx:S.contains t[z]=false:=by rw [← Bool.not_eq_true];exact hx
      have HT:Hid (pjn S s t):=pgg HA.out (List.mem_of_getElem? (pdl t z hzt)) hx
      rw [hx]
      clear hx HA
      go_wp2_with fail
      go_ret
      exact ⟨t,HT,hts,rfl,rfl⟩
  · have HT:Hid (pjn S s t):=ph5 HA.out (by omega)
    go_wp2_with fail
    go_ret
    exact ⟨t,HT,hts,rfl,rfl⟩
def hx16:List UInt8:=[48,49,50,51,52,53,54,55,56,57,97,98,99,100,101,102]
def prC:ByteArray:=⟨#[48,49,50,51,52,53,54,55,56,57,97,98,99,100,101,102]⟩
theorem plm:∀ (j:Nat) (b:UInt8),hx16[j]? =some b→b.toNat<128:=by
 intro j b h
 have hm:=List.mem_of_getElem? h
 revert b
 simp only [hx16,List.mem_cons,List.not_mem_nil,or_false]
 intro b _ hm
 rcases hm with rfl | rfl | rfl | rfl | rfl | rfl | rfl | rfl | rfl | rfl | rfl | rfl | rfl | rfl | rfl | rfl <;> decide
theorem pqc (w:World):(zeroValue 210).run Tryz.prog w=.ok (.agg (Array.replicate 256 (.bool false))) w:=by kernel_rfl
theorem prD (w:World):Calls Tryz.prog 167 #[.string ⟨#[48,49,50,51,52,53,54,55,56,57,97,98,99,100,101,102]⟩] w (fun e w'=>e=.returned (.tuple #[.agg (Lib.setCells hx16),.bool true])∧Upd [] [] w w'):=by
 refine (Tryz.strings_makeASCIISet pqc prC w (by decide) plm).mono ?_
 rintro e w' ⟨rfl,rfl⟩
 exact ⟨rfl,(Upd.refl _ _).alloc _⟩
def pq7 (s:ByteArray) (w:World) (e:Ending) (w':World):Prop:=∃ r:ByteArray,Hid (r.size=0 ↔ ∀ c∈bs s,c∈hx16)∧e=.returned (.string r)∧Upd [] [] w w'
theorem pqd (s:ByteArray) (hs:s.size≤1000000000) (h0:0<s.size) (w:World):Calls Tryz.prog 185 #[.string s,.string ⟨#[48,49,50,51,52,53,54,55,56,57,97,98,99,100,101,102]⟩] w (pq7 s w):=by
 have hb4:(s.toList == [])=false:=by
  rw [beq_eq_false_iff_ne,ne_eq,ByteArray.toList_eq]
  intro e
  have:s.size=0:=by rw [← pac];exact congrArg List.length e
  omega
 have hb5:s.toList.isEmpty=false:=by simpa using hb4
 have HM:=Lib.hid (prD w)
 obtain ⟨C,hC⟩:∃ C,Lib.setCells hx16=C:=⟨_,rfl⟩
 have HCZ:Hid (C.size=256):=by rw [← hC];exact Lib.setCells_size _
 have HCO:Hid (C.all (·.oneCell')=true):=by rw [← hC];exact Lib.setCells_one _
 have HCI:Hid ((Tryz.prog.info? 210).map (·.size)=some C.size):=by show _=_;rw [HCZ.out];kernel_rfl
 have HCS:Hid ((Tryz.zeroCells210).size=C.size):=by show _=_;rw [HCZ.out];kernel_rfl
 have HCA:Hid (∀ x:UInt8,C[x.toNat]? =some (.bool (hx16.contains x))):=by rw [← hC];exact Lib.setCells_at hx16
 rw [hC] at HM
 clear hC
 go_enter Tryz.func185,Tryz.ntmps185
 go_wp2_with fail
 refine HM.out.mono ?_
 rintro e w1 ⟨rfl,hu⟩
 obtain ⟨w2,Z2,W2,R2,hq2⟩:=paC w1 210 Tryz.zeroCells210 C
 obtain ⟨gS,hgS⟩:∃ g,w1.heap.size=g:=⟨_,rfl⟩
 rw [hgS] at Z2 W2 R2
 have HU:=Lib.hid (hu.trans hq2)
 have HSA:Hid (∀ W,Upd [] [] w2 W→pqa W gS hx16):=fun W u x=>(cell_of_row _ gS x.toNat _ _ _ (paa R2.out u)).trans (HCA.out x)
 clear hu HM hq2
 go_wp2_with (first | (refine wpList_store_rowAs rfl 210 _ _ rfl gS C rfl rfl _ _ Z2.out HCI.out HCS.out HCO.out w2 W2.out ?_))
 refine (ph6 hx16 s gS w2 (HSA.out w2 (Upd.refl _ _)) hs).mono ?_
 rintro e w3 ⟨r,HR,hr,rfl,rfl⟩
 go_wp2_with fail
 refine (pjo hx16 r gS w2 (HSA.out w2 (Upd.refl _ _)) (by omega)).mono ?_
 rintro e w3 ⟨y,HY,hy,rfl,rfl⟩
 go_wp2_with fail
 go_ret
 refine ⟨y,?_,rfl,HU.out⟩
 show _ ↔ _
 constructor
 · intro h
   by_cases hr0:r.size=0
   · exact HR.out.1.2 hr0
   · obtain ⟨c,hc,hn⟩:=HR.out.2 hr0
     exact absurd (HY.out.1.2 h c hc) hn
 · intro h
   have hr0:=HR.out.1.1 h
   omega
def pbP (l:List UInt8) (W:List (List UInt8)):Prop:=(∀ x∈W,(32:UInt8) ∉ x)∧W≠[]∧Lib.join W [32]=l
theorem pbS (x y:List UInt8) (r:List (List UInt8)) (sep:List UInt8):Lib.join (x :: y :: r) sep=x ++ (sep ++ Lib.join (y :: r) sep):=by
 rw [Lib.join_cons,Lib.join_cons]
 simp [Lib.joinTail]
theorem pbG:∀ (W V:List (List UInt8)) (l:List UInt8),pbP l W→pbP l V→W=V
 | [],_,_,h,_=>absurd rfl h.2.1
 | _ :: _,[],_,_,h=>absurd rfl h.2.1
 | [x],[y],l,h,k=>by
  have h1:=h.2.2
  have k1:=k.2.2
  rw [Lib.join_one] at h1 k1
  rw [h1,k1]
 | [x],y :: z :: r,l,h,k=>by
  have h1:=h.2.2
  have k1:=k.2.2
  rw [Lib.join_one] at h1
  rw [pbS] at k1
  have:(32:UInt8)∈x:=by rw [h1,← k1];simp
  exact absurd this (h.1 x (by simp))
 | y :: z :: r,[x],l,k,h=>by
  have h1:=h.2.2
  have k1:=k.2.2
  rw [Lib.join_one] at h1
  rw [pbS] at k1
  have:(32:UInt8)∈x:=by rw [h1,← k1];simp
  exact absurd this (h.1 x (by simp))
 | x :: y :: r,u :: v :: q,l,h,k=>by
  have h1:=h.2.2
  have k1:=k.2.2
  rw [pbS] at h1 k1
  have c1:=pbf 32 x (Lib.join (y :: r) [32]) (h.1 x (by simp))
  have c2:=pbf 32 u (Lib.join (v :: q) [32]) (k.1 u (by simp))
  have e1:x ++ 32 :: Lib.join (y :: r) [32]=l:=h1
  have e2:u ++ 32 :: Lib.join (v :: q) [32]=l:=k1
  rw [e1] at c1
  rw [e2,c1] at c2
  injection c2 with c2 c3
  injection c3 with c3 _
  have ih:=pbG (y :: r) (v :: q) (Lib.join (y :: r) [32]) ⟨fun a ha=>h.1 a (by simp [List.mem_cons.1 ha]),by simp,rfl⟩ ⟨fun a ha=>k.1 a (by simp [List.mem_cons.1 ha]),by simp,c3.symm⟩
  rw [c2,ih]
theorem pnn (sep:List UInt8) (k:Nat) (l:List UInt8):Lib.splitK sep 0 k l≠[]:=by
 cases k with
 | zero=>simp [Lib.splitK]
 | succ k =>
  unfold Lib.splitK
  split <;> simp
theorem peo:∀ (k:Nat) (l:List UInt8),l.count 32=k→pbP l (Lib.splitK [32] 0 k l)
 | 0,l,h=>⟨fun x hx=>by
  simp only [Lib.splitK,List.mem_singleton] at hx
  rw [hx]
  exact List.count_eq_zero.1 h,by simp [Lib.splitK],by rw [Lib.splitK,Lib.join_one]⟩
 | k+1,l,h=>by
  obtain ⟨a,b,rfl,hn⟩:=pdt 32 l (List.count_pos_iff.1 (by omega))
  have hb:b.count 32=k:=by
   rw [List.count_append,List.count_eq_zero.2 hn,List.count_cons_self] at h
   omega
  have ih:=peo k b hb
  rw [pa3 hn]
  refine ⟨fun x hx=>?_,by simp,?_⟩
  · rcases List.mem_cons.1 hx with rfl | hx
    · exact hn
    · exact ih.1 x hx
  · obtain ⟨y,r,e⟩:=List.exists_cons_of_ne_nil (pnn [32] k b)
    rw [e,pbS,← e,ih.2.2]
    rfl
theorem ph7 (s:ByteArray):pbP (bs s) ((Lib.splitB ⟨#[32]⟩ 0 (Lib.countB s ⟨#[32]⟩) s).map bs):=by
 have e:Lib.countB s ⟨#[32]⟩=(bs s).count 32:=Lib.count_one 32 (bs s)
 have h:=Lib.splitB_data ⟨#[32]⟩ 0 (Lib.countB s ⟨#[32]⟩) s
 have h2:(Lib.splitB ⟨#[32]⟩ 0 (Lib.countB s ⟨#[32]⟩) s).map bs=Lib.splitK [32] 0 (Lib.countB s ⟨#[32]⟩) (bs s):=h
 rw [h2,e]
 exact peo _ _ rfl
structure Bal where
 k:List UInt8
 h:Int
 v:Int
 x:List UInt8
def kPro:List UInt8:=[112,114,111,112,111,115,101]
def kPre:List UInt8:=[112,114,101,112,97,114,101]
def kCom:List UInt8:=[99,111,109,109,105,116]
def Bal.ok (b:Bal):Prop:=(b.k=kPro∨b.k=kPre∨b.k=kCom)∧(0≤b.h∧b.h≤1000000000)∧(0≤b.v∧b.v≤1000000000)∧2≤b.x.length∧b.x.length≤400∧b.x.length % 2=0∧∀ c∈b.x,c∈hx16
def Bal.words (b:Bal):List (List UInt8):=[b.k,Lib.itoa b.h,Lib.itoa b.v,b.x]
def Bal.text (b:Bal):List UInt8:=Lib.join b.words [32]
def Bal.key (b:Bal):List UInt8:=Lib.join [b.k,Lib.itoa b.h,Lib.itoa b.v] [32]
def pa0 (l:List UInt8) (b:Bal):Prop:=b.ok∧l=b.text
theorem pno:∀ c∈hx16,c≠32:=by decide
theorem Bal.ok.no32 {b:Bal} (h:b.ok):∀ x∈b.words,(32:UInt8) ∉ x:=by
 intro x hx
 simp only [Bal.words,List.mem_cons,List.not_mem_nil,or_false] at hx
 rcases hx with rfl | rfl | rfl | rfl
 · rcases h.1 with e | e | e <;> rw [e] <;> decide
 · exact itoa_no32 _
 · exact itoa_no32 _
 · exact fun hm=>pno 32 (h.2.2.2.2.2.2 32 hm) rfl
theorem pa0.words {l:List UInt8} {b:Bal} (h:pa0 l b) {W:List (List UInt8)} (hW:pbP l W):W=b.words :=
 pbG _ _ l hW ⟨h.1.no32,by simp [Bal.words],h.2.symm⟩
theorem ph8 {l:List UInt8} {a b:Bal} (ha:pa0 l a) (hb:pa0 l b):a=b:=by
 have e:=hb.words ⟨ha.1.no32,by simp [Bal.words],ha.2.symm⟩
 obtain ⟨⟨_,a1,a2,_⟩,_⟩:=ha
 obtain ⟨⟨_,b1,b2,_⟩,_⟩:=hb
 cases a with
 | mk k h v x =>
 cases b with
 | mk k' h' v' x' =>
 simp only [Bal.words,List.cons.injEq,and_true] at e
 dsimp only at *
 obtain ⟨rfl,e2,e3,rfl⟩:=e
 obtain rfl:=paI (by unfold pab;omega) (by unfold pab;omega) e2
 obtain rfl:=paI (by unfold pab;omega) (by unfold pab;omega) e3
 rfl
theorem pqe {a b:Bal} (ha:a.ok) (hb:b.ok):a.key=b.key ↔ (a.k=b.k∧a.h=b.h∧a.v=b.v):=by
 constructor
 · intro h
   have wa:pbP a.key [a.k,Lib.itoa a.h,Lib.itoa a.v]:=⟨fun x hx=>ha.no32 x (by simp only [Bal.words,List.mem_cons,List.not_mem_nil,or_false] at hx ⊢;rcases hx with h | h | h <;> simp [h]),by simp,rfl⟩
   have wb:pbP b.key [b.k,Lib.itoa b.h,Lib.itoa b.v]:=⟨fun x hx=>hb.no32 x (by simp only [Bal.words,List.mem_cons,List.not_mem_nil,or_false] at hx ⊢;rcases hx with h | h | h <;> simp [h]),by simp,rfl⟩
   rw [h] at wa
   have e:=pbG _ _ _ wa wb
   simp only [List.cons.injEq,and_true] at e
   obtain ⟨_,a1,a2,_⟩:=ha
   obtain ⟨_,b1,b2,_⟩:=hb
   exact ⟨e.1,paI (by unfold pab;omega) (by unfold pab;omega) e.2.1,paI (by unfold pab;omega) (by unfold pab;omega) e.2.2⟩
 · rintro ⟨h1,h2,h3⟩
   unfold Bal.key
   rw [h1,h2,h3]
def pcO (x v c z:Int):List UInt8:=Lib.join [Lib.itoa x,Lib.itoa v,Lib.itoa c,Lib.itoa z] [32]
theorem pcB (x v c z:Int):pbP (pcO x v c z) [Lib.itoa x,Lib.itoa v,Lib.itoa c,Lib.itoa z] :=
 ⟨fun y hy=>by
  simp only [List.mem_cons,List.not_mem_nil,or_false] at hy
  rcases hy with rfl | rfl | rfl | rfl <;> exact itoa_no32 _,by simp,rfl⟩
theorem pnp {x v c z x' v' c' z':Int} (h1:pab x) (h2:pab v) (h3:pab c) (h4:pab z) (k1:pab x') (k2:pab v') (k3:pab c') (k4:pab z') (h:pcO x v c z=pcO x' v' c' z'):x=x'∧v=v'∧c=c'∧z=z':=by
 have e:=pbG _ _ _ (pcB x v c z) (by rw [h];exact pcB x' v' c' z')
 simp only [List.cons.injEq,and_true] at e
 exact ⟨paI h1 k1 e.1,paI h2 k2 e.2.1,paI h3 k3 e.2.2.1,paI h4 k4 e.2.2.2⟩
theorem pfq (x v c z:Int) (h1:pab x) (h2:pab v) (h3:pab c) (h4:pab z):(pcO x v c z).length≤83:=by
 have l1:=itoa_len x h1
 have l2:=itoa_len v h2
 have l3:=itoa_len c h3
 have l4:=itoa_len z h4
 simp [pcO,Lib.join,List.intercalate_cons_cons]
 omega
def poN (l:List UInt8):Nat:=prr (numN (sha ([101,47] ++ l)) % 2305843009213691578)
theorem pnq (l:List UInt8):memN (poN l):=by
 have h:numN (sha ([101,47] ++ l)) % 2305843009213691578<2305843009213691578:=Nat.mod_lt _ (by omega)
 exact pob (by omega) (by show _<2305843009213691579;omega)
theorem ph9 (s:ByteArray) (w:World) (hs:s.size≤281474976710000) :
 Calls Tryz.prog 53 #[.string s] w (MkN 2305843009213691579 (poN (bs s)) w):=by
 go_enter Tryz.func53,Tryz.ntmps53
 go_wp2_with fail
 refine (pgL _ w (by have:(ByteArray.mk #[101,47]).size=2:=rfl;simp [ByteArray.size_append];omega)).mono ?_
 rintro e w1 ⟨rfl,hu1⟩
 have hb:bs (⟨#[101,47]⟩ ++ s)=[101,47] ++ bs s:=by rw [pae];rfl
 rw [hb]
 clear hb
 obtain ⟨h,hh⟩:∃ h,h=sha ([101,47] ++ bs s):=⟨_,rfl⟩
 have hl:h.length=32:=by rw [hh,pcf]
 rw [← hh]
 obtain ⟨cs,hcs⟩:∃ cs:Array Value,cs=(byteVals h).toArray:=⟨_,rfl⟩
 rw [← hcs]
 have HH:=Lib.hid hh
 have HL:=Lib.hid hl
 have HCS:=Lib.hid hcs
 clear hh hl hcs
 go_wp2_with fail
 rw [HCS.out]
 refine (pfc h HL.out w1).mono ?_
 rintro e w2 ⟨r,HR,hr,rfl,hu2⟩
 obtain ⟨q,hq⟩:∃ q,q=r % 2305843009213691578:=⟨_,rfl⟩
 have hq1:q<2305843009213691578:=by rw [hq];exact Nat.mod_lt _ (by omega)
 have hqi:((r:Int) % 2305843009213691578)=(q:Int):=by rw [hq];simp
 have hqt:Int.tmod (r:Int) 2305843009213691578=(q:Int):=by rw [Int.tmod_eq_emod_of_nonneg (by omega)];exact hqi
 have hqw:IntKind.i64.wrap (1+(q:Int))=((q+1:Nat):Int):=by rw [pap (by omega) (by omega)];omega
 have HQ:=Lib.hid hq
 clear hq
 go_wp2_with fail
 refine (pmO (q+1) (q+1) w2 (by omega) (by omega)).mono ?_
 rintro e w3 ⟨t,HT,ht,rfl,rfl⟩
 go_wp2_with fail
 go_ret
 refine ⟨t,?_,ht,rfl,hu1.trans hu2⟩
 show _=_
 rw [HT.out,HQ.out,HR.out,HH.out]
 rfl
theorem pbz (n:Int) (w:World) (hn:pab n):Calls Tryz.prog 30 #[.int .i64 n] w (MkS (Lib.itoa n) w):=by
 have HT:=Lib.hid (pll n 0 w hn (by unfold pab;omega))
 have HL:=Lib.hid (itoa_len n hn)
 clear hn
 go_enter Tryz.func30,Tryz.ntmps30
 go_wp2_with fail
 refine HT.out.mono ?_
 rintro e w1 ⟨y,HY,hy,rfl,hu⟩
 have e0:Lib.itoa 0=[48]:=phV
 have hsz:y.size=(Lib.itoa n).length+2:=by rw [paT HY.out];simp [pn6,e0]
 have HSZ:=Lib.hid hsz
 have hz1:IntKind.i64.wrap ((y.size:Int) - 2)=(y.size:Int) - 2:=pap (by omega) (by have:=HL.out;omega)
 have hz2:(0:Int)≤(y.size:Int) - 2:=by omega
 clear hy hsz
 go_wp2_with fail
 go_ret
 have e1:bs (y.extract 0 (y.size - 2))=Lib.itoa n:=by
  rw [pa1,HY.out,HSZ.out]
  simp [pn6,e0]
 exact ⟨_,e1,by rw [paT e1];exact Nat.le_refl _,rfl,hu⟩
def baseN (n:Int):Nat:=poN ([114,111,117,110,100,47] ++ Lib.itoa n)
theorem baseN_mem (n:Int):memN (baseN n):=pnq _
theorem pln (n:Int) (w:World) (hn:pab n):Calls Tryz.prog 21 #[.int .i64 n] w (MkN 2305843009213691579 (baseN n) w):=by
 have HD:=Lib.hid (pbz n w hn)
 have HL:=Lib.hid (itoa_len n hn)
 clear hn
 go_enter Tryz.func21,Tryz.ntmps21
 go_wp2_with fail
 refine HD.out.mono ?_
 rintro e w1 ⟨y,HY,hy,rfl,hu⟩
 have h6:(ByteArray.mk #[114,111,117,110,100,47]).size=6:=rfl
 have hlen:(ByteArray.mk #[114,111,117,110,100,47] ++ y).size≤1000:=by simp [ByteArray.size_append,h6];have:=HL.out;omega
 have HLN:=Lib.hid hlen
 have hys:¬ 9223372036854775807<6+y.size:=by have:=HL.out;omega
 clear hy
 go_wp2_with fail
 refine (ph9 _ w1 (by have:=HLN.out;omega)).mono ?_
 rintro e w2 ⟨r,HR,hr,rfl,hu2⟩
 go_wp2_with fail
 go_ret
 refine ⟨r,?_,hr,rfl,hu.trans hu2⟩
 show _=_
 rw [HR.out,pae,HY.out]
 rfl
def prtV (y:Nat) (n:Int):Nat:=pP (baseN n) y
def prtC (y:Nat) (n:Int):Nat:=cWith y 4 (baseN n) (nonceE y 4 (baseN n))
def prtZ (y:Nat) (n:Int):Nat:=zWith y 4 (baseN n) (nonceE y 4 (baseN n))
def prE (x y:Nat) (n:Int) (w:World) (e:Ending) (w':World):Prop:=∃ v c z:Nat,Hid (v=prtV y n∧c=prtC y n∧z=prtZ y n)∧v<2305843009213691579∧c<1152921504606845789∧z<1152921504606845789∧e=.returned (.agg #[.int .i64 (x:Int),.int .i64 (v:Int),.int .i64 (c:Int),.int .i64 (z:Int)])∧Upd [] [] w w'
def ptZ:Array Value:=#[.int .i64 0,.int .i64 0,.int .i64 0,.int .i64 0]
theorem pcb (x v c z:Int):(Tryz.prog.info? 40).map (·.size)=some (#[.int .i64 x,.int .i64 v,.int .i64 c,.int .i64 z]:Array Value).size:=by
 show _=some 4
 kernel_rfl
theorem pqf (x v c z:Int):Tryz.prog.built 40 [(0,.int .i64 x),(1,.int .i64 v),(2,.agg #[.int .i64 c,.int .i64 z])]=some #[.int .i64 x,.int .i64 v,.int .i64 c,.int .i64 z]:=by kernel_rfl
set_option maxHeartbeats 2000000 in
theorem pc4 (x y:Nat) (n:Int) (w:World) (hx:1≤x∧x≤60) (hy:y<1152921504606845789) (hn:pab n) :
 Calls Tryz.prog 6 #[.agg #[.int .i64 (x:Int),.int .i64 (y:Int)],.int .i64 n] w (prE x y n w):=by
 obtain ⟨gS,hgS⟩:∃ g,w.heap.size=g:=⟨_,rfl⟩
 obtain ⟨w0,hw0⟩:∃ W,w.alloc (.cells #[.int .i64 (x:Int),.int .i64 (y:Int)] 43)=W:=⟨_,rfl⟩
 have r0:=Lib.hid (show w0.heap[gS]? =some (.cells #[.int .i64 (x:Int),.int .i64 (y:Int)] 43 (0,0)) by rw [← hgS,← hw0];exact heap_alloc_new _ _)
 have u0:Upd [] [] w w0:=by rw [← hw0];exact (Upd.refl _ _).alloc _
 obtain ⟨gP,hgP⟩:∃ g,w0.heap.size=g:=⟨_,rfl⟩
 obtain ⟨w1,hw1⟩:∃ W,w0.alloc (.cells ptZ 40)=W:=⟨_,rfl⟩
 have s0:=Lib.hid (show w1.heap[gP]? =some (.cells ptZ 40 (0,0)) by rw [← hgP,← hw1];exact heap_alloc_new _ _)
 have u1:Upd [] [] w0 w1:=by rw [← hw1];exact (Upd.refl _ _).alloc _
 have r1:=Lib.hid (paa r0.out u1)
 have d0:=cell_of_row _ gS 0 _ _ _ r1.out
 have d1:=cell_of_row _ gS 1 _ _ _ r1.out
 have HG:Hid (w.heap.size≤gP∧gS<gP):=by have:=u0.size;have:=pag r0.out;exact ⟨by omega,by omega⟩
 have U0:=Lib.hid (u0.trans u1)
 have HB:=Lib.hid (fun W=>pln n W hn)
 have hw1':w0.alloc (.cells #[.int .i64 0,.int .i64 0,.int .i64 0,.int .i64 0] 40)=w1:=hw1
 have i1:¬ (x:Int)<1:=by omega
 have i2:¬ (60:Int)<(x:Int):=by omega
 have i3:¬ (1152921504606845789:Int)≤(y:Int):=by omega
 have i4:¬ (y:Int)<0:=by omega
 clear u0 u1 hn hw1
 go_enter Tryz.func6,Tryz.ntmps6
 go_wp2_with fail
 refine (HB.out w1).mono ?_
 rintro e w2 ⟨b,HBN,hb,rfl,hu2⟩
 have hbm:memN b:=by rw [HBN.out];exact baseN_mem n
 have hbp:b≤9223372036854775807:=by omega
 have h4:memN 4:=⟨by decide,by decide,peE⟩
 have e9:expN (y:Int)=y:=by unfold expN;omega
 have HPR:Hid (∀ W,Calls Tryz.prog 23 #[.int .i64 (y:Int),.int .i64 4,.int .i64 (b:Int)] W (ppT (prtC y n) (prtZ y n) W)):=fun W=>by
  have h:=plk (y:Int) 4 b W (by omega) h4 hbm
  rw [e9] at h
  rw [prtC,prtZ,← HBN.out]
  exact h
 have HPW:Hid (∀ W,Calls Tryz.prog 22 #[.int .i64 (b:Int),.int .i64 (y:Int),.int .i64 2305843009213691579] W (fun e w'=>∃ r:Nat,Hid (r=prtV y n)∧r<2305843009213691579∧e=.returned (.int .i64 (r:Int))∧W=w')):=fun W=>by
  have h:=pcJ b y 2305843009213691579 W hbp (by omega) rfl
  rw [prtV,← HBN.out]
  exact h
 have HK:Hid (∀ W,Upd [] [] w2 W→W.cell? ⟨gS,0,none⟩=some (.int .i64 (x:Int))∧W.cell? ⟨gS,1,none⟩=some (.int .i64 (y:Int))):=fun W u=>by
  have h:=paa r1.out (hu2.trans u)
  exact ⟨cell_of_row _ gS 0 _ _ _ h,cell_of_row _ gS 1 _ _ _ h⟩
 have HK2:Hid (∀ W V,Upd [] [] w2 W→(W.setRow gP V).cell? ⟨gS,0,none⟩=some (.int .i64 (x:Int))∧(W.setRow gP V).cell? ⟨gS,1,none⟩=some (.int .i64 (y:Int))):=fun W V u=>by
  have h:(W.setRow gP V).heap[gS]? =_:=(setRow_other _ _ _ _ (Nat.ne_of_lt HG.out.2)).trans (paa r1.out (hu2.trans u))
  exact ⟨cell_of_row _ gS 0 _ _ _ h,cell_of_row _ gS 1 _ _ _ h⟩
 have HS2:=Lib.hid (paa s0.out hu2)
 have U2:=Lib.hid (U0.out.trans hu2)
 have ud0:Upd [] [] w2 w2.drew:=(Upd.refl _ _).drew
 clear hbm hbp h4 e9 d0 d1 hu2 i1 i2 i3 i4 hx hy
 go_upto_region 4 with (fail)
 refine wp_region_noPanic ?_
 refine wp_region_held_drew (S:=fun wp=>wp.cell? ⟨gS,0,none⟩=some (.int .i64 (x:Int))∧wp.cell? ⟨gS,1,none⟩=some (.int .i64 (y:Int))) (by kernel_rfl) ?_ (fun hHeld=>?_)
 · exact HK.out _ ud0
 refine tkY 0 hHeld ?_
 refine tkY 1 hHeld ?_
 refine tkY 2 hHeld ?_
 refine tkY 3 hHeld ?_
 refine tkY 4 hHeld ?_
 refine tkY 6 hHeld ?_
 refine tkY 7 hHeld ?_
 refine tkY 8 hHeld ?_
 refine tk1 5 fun K hK=>?_
 go_simp;refine (HPW.out _).mono ?_;rintro e wv1 ⟨v,HV,hv,rfl,rfl⟩;go_wp2_with fail
 refine tkK hK (HK.out _ ud0) fun hHeld=>?_
 clear hK K
 refine tk1 9 fun K hK=>?_
 go_simp;refine (HPR.out _).mono ?_;rintro e wv2 ⟨c,z,HC,HZ,hc,hz,rfl,hq⟩;have ud1:=ud0.trans hq;clear hq;go_wp2_with fail
 refine tkK hK (HK.out _ ud1) fun hHeld=>?_
 clear hK K
 refine tkY 10 hHeld ?_
 refine tk1 11 fun K hK=>?_
 rw [if_pos (by rfl)];refine wp_store_row 40 _ _ rfl gP #[.int .i64 (x:Int),.int .i64 (v:Int),.int .i64 (c:Int),.int .i64 (z:Int)] rfl rfl _ _ (paa HS2.out ud1) (pcb _ _ _ _) rfl (by simp [Value.oneCell']) ?_
 refine tkK hK (HK2.out _ _ ud1) fun hHeld=>?_
 clear hK K
 refine wpAnyH_done (by kernel_rfl) ?_ _
 refine NoPanic.normal ?_
 go_wp2_with fail
 refine bodyPost_ret (results_cell_row rfl _ _ gP _ #[.int .i64 (x:Int),.int .i64 (v:Int),.int .i64 (c:Int),.int .i64 (z:Int)] _ _ rfl (setRow_heap _ _ _ _ _ _ (paa HS2.out ud1)) Tryz.underlying40 rfl (pcb _ _ _ _)) rfl ⟨v,c,z,Lib.hid ⟨HV.out,HC.out,HZ.out⟩,hv,hc,hz,rfl,(U2.out.trans ud1).setRowNew (Nat.le_trans HG.out.1 (Nat.le_refl _)) _⟩
set_option maxHeartbeats 2000000 in
theorem pgh (x v c z:Int) (hx:pab x) (hv:pab v) (hc:pab c) (hz:pab z) (w:World) :
 Calls Tryz.prog 11 #[.agg #[.int .i64 x,.int .i64 v,.int .i64 c,.int .i64 z]] w (MkS (pcO x v c z) w):=by
 obtain ⟨gS,hgS⟩:∃ g,w.heap.size=g:=⟨_,rfl⟩
 obtain ⟨w0,hw0⟩:∃ W,w.alloc (.cells #[.int .i64 x,.int .i64 v,.int .i64 c,.int .i64 z] 40)=W:=⟨_,rfl⟩
 have r0:=Lib.hid (show w0.heap[gS]? =some (.cells #[.int .i64 x,.int .i64 v,.int .i64 c,.int .i64 z] 40 (0,0)) by rw [← hgS,← hw0];exact heap_alloc_new _ _)
 have U0:=Lib.hid (show Upd [] [] w w0 by rw [← hw0];exact (Upd.refl _ _).alloc _)
 have HL:=Lib.hid (And.intro (itoa_len x hx) (And.intro (itoa_len v hv) (And.intro (itoa_len c hc) (itoa_len z hz))))
 have HI:=Lib.hid (And.intro hx (And.intro hv (And.intro hc hz)))
 have HK:Hid (∀ W,Upd [] [] w0 W→W.cell? ⟨gS,0,none⟩=some (.int .i64 x)∧W.cell? ⟨gS,1,none⟩=some (.int .i64 v)∧W.cell? ⟨gS,2,none⟩=some (.int .i64 c)∧W.cell? ⟨gS,3,none⟩=some (.int .i64 z)):=fun W u=>by
  have h:=paa r0.out u
  exact ⟨cell_of_row _ gS 0 _ _ _ h,cell_of_row _ gS 1 _ _ _ h,cell_of_row _ gS 2 _ _ _ h,cell_of_row _ gS 3 _ _ _ h⟩
 have ud0:Upd [] [] w0 w0.drew:=(Upd.refl _ _).drew
 clear hx hv hc hz
 go_enter Tryz.func11,Tryz.ntmps11
 go_upto_region 1 with (fail)
 refine wp_region_noPanic ?_
 refine wp_region_held_drew (S:=fun wp=>wp.cell? ⟨gS,0,none⟩=some (.int .i64 x)∧wp.cell? ⟨gS,1,none⟩=some (.int .i64 v)∧wp.cell? ⟨gS,2,none⟩=some (.int .i64 c)∧wp.cell? ⟨gS,3,none⟩=some (.int .i64 z)) (by kernel_rfl) ?_ (fun hHeld=>?_)
 · exact HK.out _ ud0
 refine tkY 0 hHeld ?_
 refine tkY 1 hHeld ?_
 refine tkY 4 hHeld ?_
 refine tkY 5 hHeld ?_
 refine tkY 9 hHeld ?_
 refine tkY 10 hHeld ?_
 refine tkY 11 hHeld ?_
 refine tkY 15 hHeld ?_
 refine tkY 16 hHeld ?_
 refine tkY 17 hHeld ?_
 refine tk1 2 fun K hK=>?_
 go_simp;refine (pbz x _ HI.out.1).mono ?_;rintro e wv1 ⟨y1,HY1,hy1,rfl,hq⟩;have ud1:=ud0.trans hq;clear hq;have t1:¬ 9223372036854775807<y1.size+1:=(by have:=HL.out;omega);go_wp2_with fail
 refine tkK hK (HK.out _ ud1) fun hHeld=>?_
 clear hK K
 refine tkY 3 hHeld ?_
 refine tk1 6 fun K hK=>?_
 go_simp;refine (pbz v _ HI.out.2.1).mono ?_;rintro e wv2 ⟨y2,HY2,hy2,rfl,hq⟩;have ud2:=ud1.trans hq;clear hq;have t2:¬ 9223372036854775807<y1.size+1+y2.size:=(by have:=HL.out;omega);have t3:¬ 9223372036854775807<y1.size+1+y2.size+1:=(by have:=HL.out;omega);go_wp2_with fail
 refine tkK hK (HK.out _ ud2) fun hHeld=>?_
 clear hK K
 refine tkY 7 hHeld ?_
 refine tkY 8 hHeld ?_
 refine tk1 12 fun K hK=>?_
 go_simp;refine (pbz c _ HI.out.2.2.1).mono ?_;rintro e wv3 ⟨y3,HY3,hy3,rfl,hq⟩;have ud3:=ud2.trans hq;clear hq;have t4:¬ 9223372036854775807<y1.size+1+y2.size+1+y3.size:=(by have:=HL.out;omega);have t5:¬ 9223372036854775807<y1.size+1+y2.size+1+y3.size+1:=(by have:=HL.out;omega);go_wp2_with fail
 refine tkK hK (HK.out _ ud3) fun hHeld=>?_
 clear hK K
 refine tkY 13 hHeld ?_
 refine tkY 14 hHeld ?_
 refine tk1 18 fun K hK=>?_
 go_simp;refine (pbz z _ HI.out.2.2.2).mono ?_;rintro e wv4 ⟨y4,HY4,hy4,rfl,hq⟩;have ud4:=ud3.trans hq;clear hq;have t6:¬ 9223372036854775807<y1.size+1+y2.size+1+y3.size+1+y4.size:=(by have:=HL.out;omega);go_wp2_with fail
 refine tkK hK (HK.out _ ud4) fun hHeld=>?_
 clear hK K
 refine tkY 19 hHeld ?_
 refine tkY 20 hHeld ?_
 refine wpAnyH_done (by kernel_rfl) ?_ _
 refine NoPanic.normal ?_
 go_wp2_with fail
 go_ret
 have e9:bs (y1 ++ ByteArray.mk #[32] ++ y2 ++ ByteArray.mk #[32] ++ y3 ++ ByteArray.mk #[32] ++ y4)=pcO x v c z:=by
  have e32:bs (ByteArray.mk #[32])=[32]:=rfl
  rw [pae,pae,pae,pae,pae,pae,HY1.out,HY2.out,HY3.out,HY4.out,e32]
  simp [pcO,Lib.join,List.intercalate_cons_cons]
 exact ⟨_,e9,by rw [paT e9];exact Nat.le_refl _,rfl,U0.out.trans ud4⟩
end Go.Proofs.YtheobkejohifaaaGreatDoor

namespace Go.Proofs.YtheobkejohifaaaGreatDoor
open Go.RowKit
attribute [local go_sem] Oper.semAt_some
set_option maxRecDepth 100000
def pwQ (x k:Nat):Nat:=x ^ k % Qn
theorem poO (x k:Nat):pwQ x (k+1)=pwQ x k * x % Qn:=by
 unfold pwQ
 rw [Nat.pow_succ,Nat.mod_mul_mod]
theorem ppm (x k:Nat):pwQ x k<1152921504606845789:=Nat.mod_lt _ (by unfold Qn;decide)
set_option maxHeartbeats 1000000 in
theorem plo (n0:Nat) (l bn bx N x:Nat) (hN:N≤1000000) (hx:x≤9223372036854775807) (J:Nat→World→Prop)
 (hJ:∀ k W,J k W→W.cell? ⟨bn,0,none⟩=some (.int .i64 (N:Int))∧W.cell? ⟨bx,0,none⟩=some (.int .i64 (x:Int)))
 (hY:∀ k W1,J k W1→k<N→YieldAt Fence.wide (n0 - 1) Tryz.prog l #[.int .i64 (k:Int),.int .i64 (pwQ x k:Int)] W1 fun e W'=>e=.returned (.bool true)∧J (k+1) W')
 (W:World) (h0:J 0 W) :
 CallsIn Fence.wide n0 Tryz.prog 286 #[.func (.yield l) #[] #[],.pointer (some ⟨bn,0,none⟩),.pointer (some ⟨bx,0,none⟩)] W (fun e W'=>(∃ v,e=.returned v)∧J N W'):=by
 refine callsIn_of_wp Tryz.func286 rfl trivial ?_ rfl
 simp only [Tryz.ntmps286,List.size_toArray,List.length_cons,List.length_nil,Nat.reduceAdd,Nat.reduceSub,Array.replicate_succ,Array.replicate_zero,List.push_toArray,List.append_toArray,List.nil_append,List.cons_append]
 have HJC:=Lib.hid hJ
 have HY:=Lib.hid hY
 have HJ0:=Lib.hid h0
 obtain ⟨c1,c2⟩:=hJ 0 W h0
 clear hJ hY h0 c2
 gi_wp2
 gi_loopw [4,5,7] (fun p _ i wr=>∃ k:Nat,i=.int .i64 (k:Int)∧k≤N∧p=.int .i64 (pwQ x k:Int)∧Hid (J k wr)) (fun _ _ i _=>N - (intOf i).toNat)
 case atStart=>exact ⟨0,rfl,Nat.zero_le _,rfl,HJ0.out⟩
 case round =>
  obtain ⟨k,rfl,hk,rfl,HJ⟩:=hrel
  by_cases hlt:k<N
  · obtain ⟨fn,tmps,assign,body,hy,hRd⟩:=HY.out k wr HJ.out hlt
    have HRD:=Lib.hid hRd
    obtain ⟨p,hp⟩:∃ p,p=pwQ x k:=⟨_,rfl⟩
    have hpl:p≤9223372036854775807:=by rw [hp];have:=ppm x k;omega
    have HPS:Hid (pwQ x (k+1)=p * x % Qn):=by rw [hp];exact poO x k
    rw [← hp] at hy ⊢
    have x1:(k:Int)<(N:Int):=by omega
    clear hRd hp
    gi_wp2
    refine ⟨(fun h=>by cases h),HRD.out.mono ?_⟩
    rintro e W' ⟨rfl,hj'⟩
    obtain ⟨c1,c2⟩:=HJC.out _ W' hj'
    have HJ':=Lib.hid hj'
    have HM:Hid (∀ m,CallsIn Fence.wide m Tryz.prog 80 #[.int .i64 (p:Int),.int .i64 (x:Int),.int .i64 1152921504606845789] W' _):=fun m=>callsIn_wide.2 (ppQ p x W' hpl hx)
    clear c1 hj'
    gi_wp2
    refine ⟨trivial,(fun h=>by cases h),(HM.out _).mono ?_⟩
    rintro e w' ⟨r,HR,_,rfl,rfl⟩
    gi_wp2
    have hps:=HPS.out
    have hr:=HR.out
    exact ⟨⟨k+1,by go_num,by omega,(by rw [hps,← hr]),HJ'.out⟩,(by first | (simp [intOf];done) | (simp [intOf];omega))⟩
  · obtain rfl:k=N:=by omega
    have x1:¬ (k:Int)<(k:Int):=by omega
    gi_wp2
    go_end0
    exact ⟨⟨_,rfl⟩,HJ.out⟩
def pqg (l D:Nat) (I:World→Prop) (W:World):Exit→Act→World→Prop
 | .normal,_,W'=>I W'∧W'.heap[l]? =W.heap[l]? ∧ W'.heap[D]? =W.heap[D]?
 | _,_,_=>False
theorem pfr {g:Operand} {t1 t2:Tmp} {assign body:Code} {Q:Exit→Act→World→Prop} {a:Act} {w:World} (bn bx N x:Nat)
 (hg:a.eval g=.func (.func 286) #[] #[.pointer (some ⟨bn,0,none⟩),.pointer (some ⟨bx,0,none⟩)]) (hN:N≤1000000) (hx:x≤9223372036854775807)
 (I:Nat→World→Prop) (hI:∀ k W,I k W→W.cell? ⟨bn,0,none⟩=some (.int .i64 (N:Int))∧W.cell? ⟨bx,0,none⟩=some (.int .i64 (x:Int)))
 (hIput:∀ k W o,I k W→I k (W.putObj (w.heap.size+1) o))
 (h0:∀ o,I 0 ((w.alloc (.deferred (some []))).alloc o)) (a1:Value→Value→Act)
 (hassign:∀ (x y:Value) (W:World) (K:Act→World→Prop),K (a1 x y) W→assign.wpIn (Fence.wide.inRound (w.heap.size+1)) (0 - 1 - 1) Tryz.prog (Exit.then K (fun _ _ _=>False)) { tmps:=(#[t1,t2].zip #[x,y]).foldl (fun t (p,v)=>t.setIfInBounds p v) a.tmps,defers:=[] } W)
 (hon:∀ k W,I k W→k<N→body.wpIn (Fence.wide.inRound (w.heap.size+1)) (0 - 1 - 1) Tryz.prog (pqg (w.heap.size+1) w.heap.size (I (k+1)) W) (a1 (.int .i64 (k:Int)) (.int .i64 (pwQ x k:Int))) W)
 (hdone:∀ W,I N W→W.heap[w.heap.size]? =some (.deferred (some []))→Q .normal { a with defers:={ target:=.collected w.heap.size,args:=#[] } :: a.defers } W) :
 (Code.rangeFunc g #[t1,t2] assign body).wp Tryz.prog Q a w:=by
 refine (wpIn_wide (n:=0)).1 (wpIn_rangeFunc ?_)
 intro fn hfn
 obtain ⟨rec,hrec⟩:∃ rec:LoopState→Option Code→Loop,rec=fun st pe=>{ state:=st,pending:=pe,fn,tmps:=a.tmps,params:=#[t1,t2],assign,body,defers:=w.heap.size }:=⟨_,rfl⟩
 obtain ⟨W1,hW1⟩:∃ W1,(w.alloc (.deferred (some []))).alloc (.loop (rec .ready none))=W1:=⟨_,rfl⟩
 have hL1:W1.heap[w.heap.size+1]? =some (.loop (rec .ready none)):=by
  rw [← hW1];have:=World.alloc_heap_new (w.alloc (.deferred (some []))) (.loop (rec .ready none));rwa [World.size_alloc] at this
 have hK1:W1.heap[w.heap.size]? =some (.deferred (some [])):=by
  rw [← hW1];exact (Below.heap_alloc _ _ _ (by simp)).trans (World.alloc_heap_new w _)
 have hI1:I 0 W1:=by rw [← hW1];exact h0 _
 have fin:∀ (W W3:World),W.heap[w.heap.size+1]? =some (.loop (rec .ready none))→W.heap[w.heap.size]? =some (.deferred (some [])) →
  W3.heap[w.heap.size+1]? =(W.putObj (w.heap.size+1) (.loop { rec .ready none with state:=.busy })).heap[w.heap.size+1]? →
  W3.heap[w.heap.size]? =(W.putObj (w.heap.size+1) (.loop { rec .ready none with state:=.busy })).heap[w.heap.size]? →
  (Instr.endRound (w.heap.size+1) none).run Tryz.prog W3=.ok (.bool true) (W3.putObj (w.heap.size+1) (.loop (rec .ready none))) ∧
  (W3.putObj (w.heap.size+1) (.loop (rec .ready none))).heap[w.heap.size+1]? =some (.loop (rec .ready none)) ∧
  (W3.putObj (w.heap.size+1) (.loop (rec .ready none))).heap[w.heap.size]? =some (.deferred (some [])):=fun W W3 hl hk hl3 hk3=>by
  have hlt:w.heap.size+1<W.heap.size:=(Array.getElem?_eq_some_iff.1 hl).1
  rw [World.putObj_heap_same hlt] at hl3
  rw [World.putObj_heap_other (by omega),hk] at hk3
  have:=run_endRound (P:=Tryz.prog) none hl3
  rw [hrec] at this ⊢
  exact ⟨this,World.putObj_heap_same (Array.getElem?_eq_some_iff.1 hl3).1,(World.putObj_heap_other (by omega)).trans hk3⟩
 refine ⟨w.heap.size+1,[{ target:=.collected w.heap.size,args:=#[] }],W1,{ target:=.fn (.func 286) #[.pointer (some ⟨bn,0,none⟩),.pointer (some ⟨bx,0,none⟩)],args:=#[.func (.yield (w.heap.size+1)) #[] #[]] },W1,286,
  #[.func (.yield (w.heap.size+1)) #[] #[]] ++ #[.pointer (some ⟨bn,0,none⟩),.pointer (some ⟨bx,0,none⟩)],W1,?_,?_,?_,?_,(fun h=>by cases h),?_⟩
 · rw [← hW1,hrec];exact run_enterLoop_outer _ _ _ _ _
 · simp only [resolve,hg]
   simp [go_sem]
 · intro f' hf';trivial
 · simp [invoke,go_sem]
 · refine (plo (0 - 1) (w.heap.size+1) bn bx N x hN hx
    (fun k W=>I k W∧W.heap[w.heap.size+1]? =some (.loop (rec .ready none))∧W.heap[w.heap.size]? =some (.deferred (some [])))
    (fun k W h=>hI k W h.1) ?_ W1 ⟨hI1,hL1,hK1⟩).mono ?_
   · rintro k W ⟨hi,hl,hk⟩ hlt
     have hy:=run_yield (P:=Tryz.prog) (args:=#[.int .i64 (k:Int),.int .i64 (pwQ x k:Int)]) hl (by rw [hrec];rfl)
     rw [hrec] at hy
     refine ⟨fn,_,assign,body,hy,roundIn_of_wpIn hfn (hassign _ _ W _ ⟨_,run_beginRound hl (by rw [hrec]),?_⟩)⟩
     refine wpIn_mono (hon k _ (hIput k W _ hi) hlt) ?_
     rintro e a3 W3 hp
     cases e with
     | normal =>
      obtain ⟨hi3,hl3,hk3⟩:=hp
      obtain ⟨hr3,hl4,hk4⟩:=fin W W3 hl hk hl3 hk3
      exact ⟨_,_,hr3,rfl,hIput _ _ _ hi3,hl4,hk4⟩
     | ret=>exact hp.elim
     | exit id=>exact hp.elim
     | goto t=>exact hp.elim
     | panic ch=>exact hp.elim
     | outgrown=>exact hp.elim
   · rintro e W2 ⟨⟨v,rfl⟩,hi,hl,hk⟩
     exact ⟨none,_,by have:=run_endLoop (P:=Tryz.prog) hl (by rw [hrec];simp);rw [hrec] at this;exact this,hdone _ (hIput _ _ _ hi) ((World.putObj_heap_other (by omega)).trans hk)⟩
end Go.Proofs.YtheobkejohifaaaGreatDoor
