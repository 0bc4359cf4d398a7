/- number of day and of court, day.word, day.cutWord, at any text and what follows. -/
import Derived.Test.YtmjlkkbbnkanpaaGreatDoorHAL
import Derived.Test.YtmjlkkbbnkanpaaGreatDoorHAJ
import Derived.Test.YtmjlkkbbnkanpaaGreatDoorHAN
import Derived.Lib.AsciiSet
import Derived.Test.YtmjlkkbbnkanpaaGreatDoorHAK
import Derived.Test.YtmjlkkbbnkanpaaGreatDoorHAA
import Derived.Test.YtmjlkkbbnkanpaaGreatDoorHAI
import Derived.Test.YtmjlkkbbnkanpaaGreatDoorHAD
namespace Go.Proofs.YtmjlkkbbnkanpaaGreatDoor
open Go.RowKit
set_option maxRecDepth 100000
set_option maxHeartbeats 1000000 in
theorem dNumberG (s:ByteArray) (w:World) (hs:s.size≤4000000000) (htab:Tabs w):Calls Tryz.prog 234 #[.string s] w (MkNum (bs s) w):=by
 by_cases hv:∃ v,Lib.atoiAll (bs s)=.ok v
 · obtain ⟨v,hv⟩:=hv
   have hvi:i64in v:=Lib.atoiAll_bounds hv
   have HA:=Lib.hid (atoi_ok s v w (by omega) hv)
   have HI:=Lib.hid (fun W (u:Upd [] [] w W)=>itoa_any v W hvi (htab.upd u))
   have HN:Hid (∀ m,i64in m→bs s=Lib.itoa m→m=v):=by
    intro m hm e
    rw [e,atoi_itoa m hm] at hv
    injection hv
   clear hv hs
   go_enter Tryz.func234,Tryz.ntmps234
   go_wp2_with fail
   refine HA.out.mono ?_
   rintro e w1 ⟨rfl,hu⟩
   have HU:=Lib.hid hu
   clear hu HA
   go_wp2_with fail
   refine (HI.out w1 HU.out).mono ?_
   rintro e w2 ⟨y,HY,_,rfl,hu⟩
   have HU2:=Lib.hid (HU.out.trans hu)
   clear hu HI HU
   by_cases hys:y=s
   · have HYS:Hid (bs s=Lib.itoa v):=by show _=_;rw [← hys];exact HY.out
     have g1:(y.toList == s.toList)=true:=eq_beq.2 (by rw [hys])
     clear hys HY
     go_wp2_with fail
     go_ret2
     exact ⟨v,true,⟨hvi,fun _=>HYS.out,fun h=>by cases h⟩,hvi,rfl,HU2.out⟩
   · have HYS:Hid (¬ isNum (bs s)):=by
      rintro ⟨m,hm,e⟩
      obtain rfl:=HN.out m hm e
      exact hys (bs_inj (HY.out.trans e.symm))
     have g1:(y.toList == s.toList)=false:=by rw [← Bool.not_eq_true];exact fun h=>hys (bs_inj (eq_beq.1 h))
     clear hys HY
     go_wp2_with fail
     go_ret2
     exact ⟨0,false,numOk_bad HYS.out,⟨by omega,by omega⟩,rfl,HU2.out⟩
 · have hv':∀ v,Lib.atoiAll (bs s)≠.ok v:=fun v e=>hv ⟨v,e⟩
   have HA:=Lib.hid (atoi_bad s w (by omega) hv' htab)
   have HYS:Hid (¬ isNum (bs s)):=by
    rintro ⟨m,hm,e⟩
    exact hv' m (by rw [e];exact atoi_itoa m hm)
   clear hv hv' hs
   go_enter Tryz.func234,Tryz.ntmps234
   go_wp2_with fail
   refine HA.out.mono ?_
   rintro e w1 ⟨v,N,rfl,hvi,hu⟩
   have HU:=Lib.hid hu
   clear hu HA
   go_wp2_with fail
   go_ret2
   exact ⟨0,false,numOk_bad HYS.out,⟨by omega,by omega⟩,rfl,HU.out⟩
set_option maxHeartbeats 1000000 in
theorem cNumberG (s:ByteArray) (w:World) (hs:s.size≤4000000000) (htab:Tabs w):Calls Tryz.prog 190 #[.string s] w (MkNum (bs s) w):=by
 by_cases hv:∃ v,Lib.atoiAll (bs s)=.ok v
 · obtain ⟨v,hv⟩:=hv
   have hvi:i64in v:=Lib.atoiAll_bounds hv
   have HA:=Lib.hid (atoi_ok s v w (by omega) hv)
   have HI:=Lib.hid (fun W (u:Upd [] [] w W)=>itoa_any v W hvi (htab.upd u))
   have HN:Hid (∀ m,i64in m→bs s=Lib.itoa m→m=v):=by
    intro m hm e
    rw [e,atoi_itoa m hm] at hv
    injection hv
   clear hv hs
   go_enter Tryz.func190,Tryz.ntmps190
   go_wp2_with fail
   refine HA.out.mono ?_
   rintro e w1 ⟨rfl,hu⟩
   have HU:=Lib.hid hu
   clear hu HA
   go_wp2_with fail
   refine (HI.out w1 HU.out).mono ?_
   rintro e w2 ⟨y,HY,_,rfl,hu⟩
   have HU2:=Lib.hid (HU.out.trans hu)
   clear hu HI HU
   by_cases hys:y=s
   · have HYS:Hid (bs s=Lib.itoa v):=by show _=_;rw [← hys];exact HY.out
     have g1:(y.toList == s.toList)=true:=eq_beq.2 (by rw [hys])
     clear hys HY
     go_wp2_with fail
     go_ret2
     exact ⟨v,true,⟨hvi,fun _=>HYS.out,fun h=>by cases h⟩,hvi,rfl,HU2.out⟩
   · have HYS:Hid (¬ isNum (bs s)):=by
      rintro ⟨m,hm,e⟩
      obtain rfl:=HN.out m hm e
      exact hys (bs_inj (HY.out.trans e.symm))
     have g1:(y.toList == s.toList)=false:=by rw [← Bool.not_eq_true];exact fun h=>hys (bs_inj (eq_beq.1 h))
     clear hys HY
     go_wp2_with fail
     go_ret2
     exact ⟨0,false,numOk_bad HYS.out,⟨by omega,by omega⟩,rfl,HU2.out⟩
 · have hv':∀ v,Lib.atoiAll (bs s)≠.ok v:=fun v e=>hv ⟨v,e⟩
   have HA:=Lib.hid (atoi_bad s w (by omega) hv' htab)
   have HYS:Hid (¬ isNum (bs s)):=by
    rintro ⟨m,hm,e⟩
    exact hv' m (by rw [e];exact atoi_itoa m hm)
   clear hv hv' hs
   go_enter Tryz.func190,Tryz.ntmps190
   go_wp2_with fail
   refine HA.out.mono ?_
   rintro e w1 ⟨v,N,rfl,hvi,hu⟩
   have HU:=Lib.hid hu
   clear hu HA
   go_wp2_with fail
   go_ret2
   exact ⟨0,false,numOk_bad HYS.out,⟨by omega,by omega⟩,rfl,HU.out⟩
theorem dWordG (t:ByteArray) (w:World) (ht:t.size≤1000000000) (htab:Tabs w):Calls Tryz.prog 107 #[.string t] w (MkS (wordG (bs t)) w):=by
 have HI:Hid (Calls Tryz.prog 50 #[.int .i64 (t.size:Int)] w (MkS (Lib.itoa (t.size:Int)) w)):=itoa_any (t.size:Int) w (by unfold i64in;omega) htab
 go_enter Tryz.func107,Tryz.ntmps107
 go_wp2_with fail
 refine HI.out.mono ?_
 rintro e w1 ⟨y,HY,hy,rfl,hu⟩
 have HU:=Lib.hid hu
 clear hu HI
 have l1:=itoa_len (t.size:Int) (by unfold i64in;omega)
 go_wp2_with fail
 go_ret
 have hb:bs (y ++ ByteArray.mk #[58] ++ t)=wordG (bs t):=by
  rw [bs_append,bs_append,HY.out,wordG,bs_length]
  simp [bs]
 exact ⟨_,hb,by rw [← hb,bs_length];exact Nat.le_refl _,rfl,HU.out⟩
def cutG (l:List UInt8) (t r:ByteArray) (ok:Bool):Prop:=(ok=true→l=wordG (bs t) ++ bs r)∧(ok=false→∀ a b:List UInt8,a.length≤9223372036854775807→l≠wordG a ++ b)
def MkCutG (s:ByteArray) (w:World) (e:Ending) (w':World):Prop:=∃ (t r:ByteArray) (ok:Bool),Hid (cutG (bs s) t r ok)∧t.size≤s.size∧r.size≤s.size∧e=.returned (.tuple #[.string t,.string r,.bool ok])∧Upd [] [] w w'
theorem cutG_not {l:List UInt8} (h:∀ a b:List UInt8,a.length≤9223372036854775807→l≠wordG a ++ b):cutG l ⟨#[]⟩ ⟨#[]⟩ false:=⟨fun e=>(by cases e),fun _=>h⟩
theorem first_split (c:UInt8):∀ l:List UInt8,c∈l→∃ a b,l=a ++ c :: b∧c ∉ a
 | [],h=>by cases h
 | x :: r,h=>by
  by_cases hx:x=c
  · exact ⟨[],r,by rw [hx];rfl,by simp⟩
  · rcases List.mem_cons.1 h with h | h
    · exact absurd h.symm hx
    · obtain ⟨a,b,e,hn⟩:=first_split c r h
      refine ⟨x :: a,b,by rw [e];rfl,fun hm=>?_⟩
      rcases List.mem_cons.1 hm with hm | hm
      · exact hx hm.symm
      · exact hn hm
theorem cut_back {l x y:List UInt8} {c:UInt8} (h:Lib.cut l [c]=(x,y,true)):l=x ++ c :: y:=by
 by_cases hc:c∈l
 · obtain ⟨a,b,e,hn⟩:=first_split c l hc
   subst e
   rw [cut_hit c a b hn] at h
   injection h with h1 h2
   injection h2 with h2 _
   rw [h1,h2]
 · rw [cut_miss c l hc] at h
   injection h with _ h2
   injection h2 with _ h3
   cases h3
set_option maxHeartbeats 1000000 in
theorem dCutG (s:ByteArray) (w:World) (hs:s.size≤4000000000) (htab:Tabs w):Calls Tryz.prog 236 #[.string s] w (MkCutG s w):=by
 have HC:=Lib.hid (cutByte_any s 58 w hs htab)
 have HN:=Lib.hid (fun W (u:Upd [] [] w W) (t:ByteArray) (ht:t.size≤4000000000)=>dNumberG t W ht (htab.upd u))
 go_enter Tryz.func236,Tryz.ntmps236
 go_wp2_with fail
 refine HC.out.mono ?_
 rintro e w1 ⟨l,r,q,HL,HR,HQ,hl,hr,rfl,hu⟩
 have HU:=Lib.hid hu
 have HCUT:Hid (Lib.cut (bs s) [58]=(bs l,bs r,q)):=by show _=_;rw [HL.out,HR.out,HQ.out]
 clear hu HC HL HR HQ
 cases q
 · have HNO:Hid (∀ a b:List UInt8,a.length≤9223372036854775807→bs s≠wordG a ++ b):=by
    intro a b _ e
    have h:=HCUT.out
    rw [e,wordG,List.append_assoc,List.cons_append,word_cut] at h
    injection h with _ h
    injection h with _ h
    cases h
   clear HCUT
   go_wp2_with fail
   go_ret3
   exact ⟨_,_,false,cutG_not HNO.out,Nat.zero_le _,Nat.zero_le _,rfl,HU.out⟩
 · have HS:Hid (bs s=bs l ++ 58 :: bs r):=cut_back HCUT.out
   go_wp2_with fail
   refine (HN.out w1 HU.out l (by omega)).mono ?_
   rintro e w2 ⟨n,ok,HO,hn,rfl,hu⟩
   have HU2:=Lib.hid (HU.out.trans hu)
   clear hu HU HN
   obtain ⟨hn1,hn2⟩:=hn
   have HNO:Hid ((ok=false∨n<0∨(r.size:Int)<n)→∀ a b:List UInt8,a.length≤9223372036854775807→bs s≠wordG a ++ b):=by
    intro hbad a b ha e
    have h:=HCUT.out
    rw [e,wordG,List.append_assoc,List.cons_append,word_cut] at h
    injection h with h1 h
    injection h with h2 _
    have hi:i64in (a.length:Int):=by unfold i64in;omega
    cases ok with
    | false=>exact HO.out.2.2 rfl ⟨_,hi,h1.symm⟩
    | true =>
     have e1:=HO.out.2.1 rfl
     rw [← h1] at e1
     have e2:=itoa_inj hi ⟨hn1,hn2⟩ e1
     have e3:=congrArg List.length h2
     rw [List.length_append,bs_length] at e3
     rcases hbad with h | h | h
     · cases h
     · omega
     · omega
   cases ok
   · clear HCUT HS HO
     go_wp2_with fail
     go_ret3
     exact ⟨_,_,false,cutG_not (HNO.out (by first | exact .inl rfl | exact .inl trivial | simp)),Nat.zero_le _,Nat.zero_le _,rfl,HU2.out⟩
   · by_cases hn0:n<0
     · clear HCUT HS HO
       go_wp2_with fail
       go_ret3
       exact ⟨_,_,false,cutG_not (HNO.out (by first | exact .inr (.inl hn0) | simp [hn0])),Nat.zero_le _,Nat.zero_le _,rfl,HU2.out⟩
     · by_cases hnr:(r.size:Int)<n
       · clear HCUT HS HO
         go_wp2_with fail
         go_ret3
         exact ⟨_,_,false,cutG_not (HNO.out (by first | exact .inr (.inr hnr) | simp [hnr])),Nat.zero_le _,Nat.zero_le _,rfl,HU2.out⟩
       · obtain ⟨k,rfl⟩:∃ k:Nat,n=(k:Int):=⟨n.toNat,by omega⟩
         have hkr:k≤r.size:=by omega
         have k1:(k:Int)≤(r.size:Int):=by omega
         have HW:Hid (bs s=wordG (bs (r.extract 0 k)) ++ bs (r.extract k r.size)):=by
          show _=_
          have e1:((bs r).take k).length=k:=by rw [List.length_take,bs_length];omega
          rw [HS.out,bs_left,bs_right,wordG,e1,← HO.out.2.1 rfl,List.append_assoc,List.cons_append,List.take_append_drop]
         clear HCUT HS HO HNO
         go_wp2_with fail
         go_quiet (fail)
         go_wp2_with fail
         go_ret3
         have z1:(r.extract 0 k).size≤s.size:=by rw [← bs_length,bs_left,List.length_take,bs_length];omega
         have z2:(r.extract k r.size).size≤s.size:=by rw [← bs_length,bs_right,List.length_drop,bs_length];omega
         exact ⟨_,_,true,⟨fun _=>HW.out,fun h=>(by cases h)⟩,z1,z2,rfl,HU2.out.drewN _⟩

def hx16:List UInt8:=[48,49,50,51,52,53,54,55,56,57,97,98,99,100,101,102]
def IsWords (l:List UInt8) (W:List (List UInt8)):Prop:=(∀ x∈W,(32:UInt8) ∉ x)∧W≠[]∧Lib.join W [32]=l
theorem join_two (x y:List UInt8) (r:List (List UInt8)) (sep:List UInt8):Lib.join (x :: y :: r) sep=x ++ (sep ++ Lib.join (y :: r) sep):=by
 rw [Lib.join_cons,Lib.join_cons]
 simp [Lib.joinTail]
theorem words_uniq:∀ (W V:List (List UInt8)) (l:List UInt8),IsWords l W→IsWords l V→W=V
 | [],_,_,h,_=>absurd rfl h.2.1
 | _ :: _,[],_,_,h=>absurd rfl h.2.1
 | [x],[y],l,h,k=>by
  have h1:=h.2.2
  have k1:=k.2.2
  rw [Lib.join_one] at h1 k1
  rw [h1,k1]
 | [x],y :: z :: r,l,h,k=>by
  have h1:=h.2.2
  have k1:=k.2.2
  rw [Lib.join_one] at h1
  rw [join_two] at k1
  have:(32:UInt8)∈x:=by rw [h1,← k1];simp
  exact absurd this (h.1 x (by simp))
 | y :: z :: r,[x],l,k,h=>by
  have h1:=h.2.2
  have k1:=k.2.2
  rw [Lib.join_one] at h1
  rw [join_two] at k1
  have:(32:UInt8)∈x:=by rw [h1,← k1];simp
  exact absurd this (h.1 x (by simp))
 | x :: y :: r,u :: v :: q,l,h,k=>by
  have h1:=h.2.2
  have k1:=k.2.2
  rw [join_two] at h1 k1
  have c1:=cut_hit 32 x (Lib.join (y :: r) [32]) (h.1 x (by simp))
  have c2:=cut_hit 32 u (Lib.join (v :: q) [32]) (k.1 u (by simp))
  have e1:x ++ 32 :: Lib.join (y :: r) [32]=l:=h1
  have e2:u ++ 32 :: Lib.join (v :: q) [32]=l:=k1
  rw [e1] at c1
  rw [e2,c1] at c2
  injection c2 with c2 c3
  injection c3 with c3 _
  have ih:=words_uniq (y :: r) (v :: q) (Lib.join (y :: r) [32]) ⟨fun a ha=>h.1 a (by simp [List.mem_cons.1 ha]),by simp,rfl⟩ ⟨fun a ha=>k.1 a (by simp [List.mem_cons.1 ha]),by simp,c3.symm⟩
  rw [c2,ih]
theorem splitK_ne (sep:List UInt8) (k:Nat) (l:List UInt8):Lib.splitK sep 0 k l≠[]:=by
 cases k with
 | zero=>simp [Lib.splitK]
 | succ k =>
  unfold Lib.splitK
  split <;> simp
theorem splitK_words:∀ (k:Nat) (l:List UInt8),l.count 32=k→IsWords l (Lib.splitK [32] 0 k l)
 | 0,l,h=>⟨fun x hx=>by
  simp only [Lib.splitK,List.mem_singleton] at hx
  rw [hx]
  exact List.count_eq_zero.1 h,by simp [Lib.splitK],by rw [Lib.splitK,Lib.join_one]⟩
 | k+1,l,h=>by
  obtain ⟨a,b,rfl,hn⟩:=first_split 32 l (List.count_pos_iff.1 (by omega))
  have hb:b.count 32=k:=by
   rw [List.count_append,List.count_eq_zero.2 hn,List.count_cons_self] at h
   omega
  have ih:=splitK_words k b hb
  rw [splitK_hit hn]
  refine ⟨fun x hx=>?_,by simp,?_⟩
  · rcases List.mem_cons.1 hx with rfl | hx
    · exact hn
    · exact ih.1 x hx
  · obtain ⟨y,r,e⟩:=List.exists_cons_of_ne_nil (splitK_ne [32] k b)
    rw [e,join_two,← e,ih.2.2]
    rfl
theorem splitB_words (s:ByteArray):IsWords (bs s) ((Lib.splitB ⟨#[32]⟩ 0 (Lib.countB s ⟨#[32]⟩) s).map bs):=by
 have e:Lib.countB s ⟨#[32]⟩=(bs s).count 32:=Lib.count_one 32 (bs s)
 have h:=Lib.splitB_data ⟨#[32]⟩ 0 (Lib.countB s ⟨#[32]⟩) s
 have h2:(Lib.splitB ⟨#[32]⟩ 0 (Lib.countB s ⟨#[32]⟩) s).map bs=Lib.splitK [32] 0 (Lib.countB s ⟨#[32]⟩) (bs s):=h
 rw [h2,e]
 exact splitK_words _ _ rfl
structure Bal where
 k:List UInt8
 h:Int
 v:Int
 x:List UInt8
def kPro:List UInt8:=[112,114,111,112,111,115,101]
def kPre:List UInt8:=[112,114,101,112,97,114,101]
def kCom:List UInt8:=[99,111,109,109,105,116]
def Bal.ok (b:Bal):Prop:=(b.k=kPro∨b.k=kPre∨b.k=kCom)∧(0≤b.h∧b.h≤1000000000)∧(0≤b.v∧b.v≤1000000000)∧2≤b.x.length∧b.x.length≤400∧b.x.length % 2=0∧∀ c∈b.x,c∈hx16
def Bal.words (b:Bal):List (List UInt8):=[b.k,Lib.itoa b.h,Lib.itoa b.v,b.x]
def Bal.text (b:Bal):List UInt8:=Lib.join b.words [32]
def Bal.key (b:Bal):List UInt8:=Lib.join [b.k,Lib.itoa b.h,Lib.itoa b.v] [32]
def IsBal (l:List UInt8) (b:Bal):Prop:=b.ok∧l=b.text
def partL (x v c z:Int):List UInt8:=Lib.join [Lib.itoa x,Lib.itoa v,Lib.itoa c,Lib.itoa z] [32]
theorem partL_words (x v c z:Int):IsWords (partL x v c z) [Lib.itoa x,Lib.itoa v,Lib.itoa c,Lib.itoa z] :=
 ⟨fun y hy=>by
  simp only [List.mem_cons,List.not_mem_nil,or_false] at hy
  rcases hy with rfl | rfl | rfl | rfl <;> exact itoa_no32 _,by simp,rfl⟩
theorem partL_len (x v c z:Int) (h1:i64in x) (h2:i64in v) (h3:i64in c) (h4:i64in z):(partL x v c z).length≤83:=by
 have l1:=itoa_len x h1
 have l2:=itoa_len v h2
 have l3:=itoa_len c h3
 have l4:=itoa_len z h4
 simp [partL,Lib.join,List.intercalate_cons_cons]
 omega
def elemS (l:List UInt8):Nat:=elemN (numN (sha ([101,47] ++ l)) % 2305843009213691578)
theorem elemS_mem (l:List UInt8):memN (elemS l):=by
 have h:numN (sha ([101,47] ++ l)) % 2305843009213691578<2305843009213691578:=Nat.mod_lt _ (by omega)
 exact elem_mem (by omega) (by show _<2305843009213691579;omega)
theorem relement_any (s:ByteArray) (w:World) (hs:s.size≤281474976710000) :
 Calls Tryz.prog 133 #[.string s] w (MkN 2305843009213691579 (elemS (bs s)) w):=by
 go_enter Tryz.func133,Tryz.ntmps133
 go_wp2_with fail
 refine (rsum_any _ w (by have:(ByteArray.mk #[101,47]).size=2:=rfl;simp [ByteArray.size_append];omega)).mono ?_
 rintro e w1 ⟨rfl,hu1⟩
 have hb:bs (⟨#[101,47]⟩ ++ s)=[101,47] ++ bs s:=by rw [bs_append];rfl
 rw [hb]
 clear hb
 obtain ⟨h,hh⟩:∃ h,h=sha ([101,47] ++ bs s):=⟨_,rfl⟩
 have hl:h.length=32:=by rw [hh,sha_length]
 rw [← hh]
 obtain ⟨cs,hcs⟩:∃ cs:Array Value,cs=(byteVals h).toArray:=⟨_,rfl⟩
 rw [← hcs]
 have HH:=Lib.hid hh
 have HL:=Lib.hid hl
 have HCS:=Lib.hid hcs
 clear hh hl hcs
 go_wp2_with fail
 rw [HCS.out]
 refine (rnumber_any h HL.out w1).mono ?_
 rintro e w2 ⟨r,HR,hr,rfl,hu2⟩
 obtain ⟨q,hq⟩:∃ q,q=r % 2305843009213691578:=⟨_,rfl⟩
 have hq1:q<2305843009213691578:=by rw [hq];exact Nat.mod_lt _ (by omega)
 have hqi:((r:Int) % 2305843009213691578)=(q:Int):=by rw [hq];simp
 have hqt:Int.tmod (r:Int) 2305843009213691578=(q:Int):=by rw [Int.tmod_eq_emod_of_nonneg (by omega)];exact hqi
 have hqw:IntKind.i64.wrap (1+(q:Int))=((q+1:Nat):Int):=by rw [wrap_in (by omega) (by omega)];omega
 have HQ:=Lib.hid hq
 clear hq
 go_wp2_with fail
 refine (rMulP_n (q+1) (q+1) w2 (by omega) (by omega)).mono ?_
 rintro e w3 ⟨t,HT,ht,rfl,rfl⟩
 go_wp2_with fail
 go_ret
 refine ⟨t,?_,ht,rfl,hu1.trans hu2⟩
 show _=_
 rw [HT.out,HQ.out,HR.out,HH.out]
 rfl
theorem decimal09_any (n:Int) (w:World) (hn:i64in n):Calls Tryz.prog 67 #[.int .i64 n] w (MkS (Lib.itoa n) w):=by
 have HT:=Lib.hid (rtext6_any n 0 w hn (by unfold i64in;omega))
 have HL:=Lib.hid (itoa_len n hn)
 clear hn
 go_enter Tryz.func67,Tryz.ntmps67
 go_wp2_with fail
 refine HT.out.mono ?_
 rintro e w1 ⟨y,HY,hy,rfl,hu⟩
 have e0:Lib.itoa 0=[48]:=itoa_0
 have hsz:y.size=(Lib.itoa n).length+2:=by rw [bs_size HY.out];simp [pairL,e0]
 have HSZ:=Lib.hid hsz
 have hz1:IntKind.i64.wrap ((y.size:Int) - 2)=(y.size:Int) - 2:=wrap_in (by omega) (by have:=HL.out;omega)
 have hz2:(0:Int)≤(y.size:Int) - 2:=by omega
 clear hy hsz
 go_wp2_with fail
 go_ret
 have e1:bs (y.extract 0 (y.size - 2))=Lib.itoa n:=by
  rw [bs_extract,HY.out,HSZ.out]
  simp [pairL,e0]
 exact ⟨_,e1,by rw [bs_size e1];exact Nat.le_refl _,rfl,hu⟩
def baseN (n:Int):Nat:=elemS ([114,111,117,110,100,47] ++ Lib.itoa n)
theorem baseN_mem (n:Int):memN (baseN n):=elemS_mem _
theorem base09_any (n:Int) (w:World) (hn:i64in n):Calls Tryz.prog 65 #[.int .i64 n] w (MkN 2305843009213691579 (baseN n) w):=by
 have HD:=Lib.hid (decimal09_any n w hn)
 have HL:=Lib.hid (itoa_len n hn)
 clear hn
 go_enter Tryz.func65,Tryz.ntmps65
 go_wp2_with fail
 refine HD.out.mono ?_
 rintro e w1 ⟨y,HY,hy,rfl,hu⟩
 have h6:(ByteArray.mk #[114,111,117,110,100,47]).size=6:=rfl
 have hlen:(ByteArray.mk #[114,111,117,110,100,47] ++ y).size≤1000:=by simp [ByteArray.size_append,h6];have:=HL.out;omega
 have HLN:=Lib.hid hlen
 have hys:¬ 9223372036854775807<6+y.size:=by have:=HL.out;omega
 clear hy
 go_wp2_with fail
 refine (relement_any _ w1 (by have:=HLN.out;omega)).mono ?_
 rintro e w2 ⟨r,HR,hr,rfl,hu2⟩
 go_wp2_with fail
 go_ret
 refine ⟨r,?_,hr,rfl,hu.trans hu2⟩
 show _=_
 rw [HR.out,bs_append,HY.out]
 rfl
def prtV (y:Nat) (n:Int):Nat:=pP (baseN n) y
def prtC (y:Nat) (n:Int):Nat:=cWith y 4 (baseN n) (nonceE y 4 (baseN n))
def prtZ (y:Nat) (n:Int):Nat:=zWith y 4 (baseN n) (nonceE y 4 (baseN n))
def MkPrt (x y:Nat) (n:Int) (w:World) (e:Ending) (w':World):Prop:=∃ v c z:Nat,Hid (v=prtV y n∧c=prtC y n∧z=prtZ y n)∧v<2305843009213691579∧c<1152921504606845789∧z<1152921504606845789∧e=.returned (.agg #[.int .i64 (x:Int),.int .i64 (v:Int),.int .i64 (c:Int),.int .i64 (z:Int)])∧Upd [] [] w w'
def ptZ:Array Value:=#[.int .i64 0,.int .i64 0,.int .i64 0,.int .i64 0]
theorem ptInfo (x v c z:Int):(Tryz.prog.info? 82).map (·.size)=some (#[.int .i64 x,.int .i64 v,.int .i64 c,.int .i64 z]:Array Value).size:=by
 show _=some 4
 kernel_rfl
theorem ptBuilt (x v c z:Int):Tryz.prog.built 82 [(0,.int .i64 x),(1,.int .i64 v),(2,.agg #[.int .i64 c,.int .i64 z])]=some #[.int .i64 x,.int .i64 v,.int .i64 c,.int .i64 z]:=by kernel_rfl
set_option maxHeartbeats 2000000 in
theorem eval09_any (x y:Nat) (n:Int) (w:World) (hx:1≤x∧x≤60) (hy:y<1152921504606845789) (hn:i64in n) :
 Calls Tryz.prog 22 #[.agg #[.int .i64 (x:Int),.int .i64 (y:Int)],.int .i64 n] w (MkPrt x y n w):=by
 obtain ⟨gS,hgS⟩:∃ g,w.heap.size=g:=⟨_,rfl⟩
 obtain ⟨w0,hw0⟩:∃ W,w.alloc (.cells #[.int .i64 (x:Int),.int .i64 (y:Int)] 85)=W:=⟨_,rfl⟩
 have r0:=Lib.hid (show w0.heap[gS]? =some (.cells #[.int .i64 (x:Int),.int .i64 (y:Int)] 85 (0,0)) by rw [← hgS,← hw0];exact heap_alloc_new _ _)
 have u0:Upd [] [] w w0:=by rw [← hw0];exact (Upd.refl _ _).alloc _
 obtain ⟨gP,hgP⟩:∃ g,w0.heap.size=g:=⟨_,rfl⟩
 obtain ⟨w1,hw1⟩:∃ W,w0.alloc (.cells ptZ 82)=W:=⟨_,rfl⟩
 have s0:=Lib.hid (show w1.heap[gP]? =some (.cells ptZ 82 (0,0)) by rw [← hgP,← hw1];exact heap_alloc_new _ _)
 have u1:Upd [] [] w0 w1:=by rw [← hw1];exact (Upd.refl _ _).alloc _
 have r1:=Lib.hid (row_updH r0.out u1)
 have d0:=cell_of_row _ gS 0 _ _ _ r1.out
 have d1:=cell_of_row _ gS 1 _ _ _ r1.out
 have HG:Hid (w.heap.size≤gP∧gS<gP):=by have:=u0.size;have:=blk_lt r0.out;exact ⟨by omega,by omega⟩
 have U0:=Lib.hid (u0.trans u1)
 have HB:=Lib.hid (fun W=>base09_any n W hn)
 have hw1':w0.alloc (.cells #[.int .i64 0,.int .i64 0,.int .i64 0,.int .i64 0] 82)=w1:=hw1
 have i1:¬ (x:Int)<1:=by omega
 have i2:¬ (60:Int)<(x:Int):=by omega
 have i3:¬ (1152921504606845789:Int)≤(y:Int):=by omega
 have i4:¬ (y:Int)<0:=by omega
 clear u0 u1 hn hw1
 go_enter Tryz.func22,Tryz.ntmps22
 go_wp2_with fail
 refine (HB.out w1).mono ?_
 rintro e w2 ⟨b,HBN,hb,rfl,hu2⟩
 have hbm:memN b:=by rw [HBN.out];exact baseN_mem n
 have hbp:b≤9223372036854775807:=by omega
 have h4:memN 4:=⟨by decide,by decide,g_member⟩
 have e9:expN (y:Int)=y:=by unfold expN;omega
 have HPR:Hid (∀ W,Calls Tryz.prog 66 #[.int .i64 (y:Int),.int .i64 4,.int .i64 (b:Int)] W (MkPrf (prtC y n) (prtZ y n) W)):=fun W=>by
  have h:=rprove_mem (y:Int) 4 b W (by omega) h4 hbm
  rw [e9] at h
  rw [prtC,prtZ,← HBN.out]
  exact h
 have HPW:Hid (∀ W,Calls Tryz.prog 40 #[.int .i64 (b:Int),.int .i64 (y:Int),.int .i64 2305843009213691579] W (fun e w'=>∃ r:Nat,Hid (r=prtV y n)∧r<2305843009213691579∧e=.returned (.int .i64 (r:Int))∧W=w')):=fun W=>by
  have h:=rPow_n b y 2305843009213691579 W hbp (by omega) rfl
  rw [prtV,← HBN.out]
  exact h
 have HK:Hid (∀ W,Upd [] [] w2 W→W.cell? ⟨gS,0,none⟩=some (.int .i64 (x:Int))∧W.cell? ⟨gS,1,none⟩=some (.int .i64 (y:Int))):=fun W u=>by
  have h:=row_updH r1.out (hu2.trans u)
  exact ⟨cell_of_row _ gS 0 _ _ _ h,cell_of_row _ gS 1 _ _ _ h⟩
 have HK2:Hid (∀ W V,Upd [] [] w2 W→(W.setRow gP V).cell? ⟨gS,0,none⟩=some (.int .i64 (x:Int))∧(W.setRow gP V).cell? ⟨gS,1,none⟩=some (.int .i64 (y:Int))):=fun W V u=>by
  have h:(W.setRow gP V).heap[gS]? =_:=(setRow_other _ _ _ _ (Nat.ne_of_lt HG.out.2)).trans (row_updH r1.out (hu2.trans u))
  exact ⟨cell_of_row _ gS 0 _ _ _ h,cell_of_row _ gS 1 _ _ _ h⟩
 have HS2:=Lib.hid (row_updH s0.out hu2)
 have U2:=Lib.hid (U0.out.trans hu2)
 have ud0:Upd [] [] w2 w2.drew:=(Upd.refl _ _).drew
 clear hbm hbp h4 e9 d0 d1 hu2 i1 i2 i3 i4 hx hy
 go_upto_region 4 with (fail)
 refine wp_region_noPanic ?_
 refine wp_region_held_drew (S:=fun wp=>wp.cell? ⟨gS,0,none⟩=some (.int .i64 (x:Int))∧wp.cell? ⟨gS,1,none⟩=some (.int .i64 (y:Int))) (by kernel_rfl) ?_ (fun hHeld=>?_)
 · exact HK.out _ ud0
 refine tkY 0 hHeld ?_
 refine tkY 1 hHeld ?_
 refine tkY 2 hHeld ?_
 refine tkY 3 hHeld ?_
 refine tkY 4 hHeld ?_
 refine tkY 6 hHeld ?_
 refine tkY 7 hHeld ?_
 refine tkY 8 hHeld ?_
 refine tk1 5 fun K hK=>?_
 go_simp;refine (HPW.out _).mono ?_;rintro e wv1 ⟨v,HV,hv,rfl,rfl⟩;go_wp2_with fail
 refine tkK hK (HK.out _ ud0) fun hHeld=>?_
 clear hK K
 refine tk1 9 fun K hK=>?_
 go_simp;refine (HPR.out _).mono ?_;rintro e wv2 ⟨c,z,HC,HZ,hc,hz,rfl,hq⟩;have ud1:=ud0.trans hq;clear hq;go_wp2_with fail
 refine tkK hK (HK.out _ ud1) fun hHeld=>?_
 clear hK K
 refine tkY 10 hHeld ?_
 refine tk1 11 fun K hK=>?_
 rw [if_pos (by rfl)];refine wp_store_row 82 _ _ rfl gP #[.int .i64 (x:Int),.int .i64 (v:Int),.int .i64 (c:Int),.int .i64 (z:Int)] rfl rfl _ _ (row_updH HS2.out ud1) (ptInfo _ _ _ _) rfl (by simp [Value.oneCell']) ?_
 refine tkK hK (HK2.out _ _ ud1) fun hHeld=>?_
 clear hK K
 refine wpAnyH_done (by kernel_rfl) ?_ _
 refine NoPanic.normal ?_
 go_wp2_with fail
 refine bodyPost_ret (results_cell_row rfl _ _ gP _ #[.int .i64 (x:Int),.int .i64 (v:Int),.int .i64 (c:Int),.int .i64 (z:Int)] _ _ rfl (setRow_heap _ _ _ _ _ _ (row_updH HS2.out ud1)) Tryz.underlying82 rfl (ptInfo _ _ _ _)) rfl ⟨v,c,z,Lib.hid ⟨HV.out,HC.out,HZ.out⟩,hv,hc,hz,rfl,(U2.out.trans ud1).setRowNew (Nat.le_trans HG.out.1 (Nat.le_refl _)) _⟩
set_option maxHeartbeats 2000000 in
theorem text09_any (x v c z:Int) (hx:i64in x) (hv:i64in v) (hc:i64in c) (hz:i64in z) (w:World) :
 Calls Tryz.prog 23 #[.agg #[.int .i64 x,.int .i64 v,.int .i64 c,.int .i64 z]] w (MkS (partL x v c z) w):=by
 obtain ⟨gS,hgS⟩:∃ g,w.heap.size=g:=⟨_,rfl⟩
 obtain ⟨w0,hw0⟩:∃ W,w.alloc (.cells #[.int .i64 x,.int .i64 v,.int .i64 c,.int .i64 z] 82)=W:=⟨_,rfl⟩
 have r0:=Lib.hid (show w0.heap[gS]? =some (.cells #[.int .i64 x,.int .i64 v,.int .i64 c,.int .i64 z] 82 (0,0)) by rw [← hgS,← hw0];exact heap_alloc_new _ _)
 have U0:=Lib.hid (show Upd [] [] w w0 by rw [← hw0];exact (Upd.refl _ _).alloc _)
 have HL:=Lib.hid (And.intro (itoa_len x hx) (And.intro (itoa_len v hv) (And.intro (itoa_len c hc) (itoa_len z hz))))
 have HI:=Lib.hid (And.intro hx (And.intro hv (And.intro hc hz)))
 have HK:Hid (∀ W,Upd [] [] w0 W→W.cell? ⟨gS,0,none⟩=some (.int .i64 x)∧W.cell? ⟨gS,1,none⟩=some (.int .i64 v)∧W.cell? ⟨gS,2,none⟩=some (.int .i64 c)∧W.cell? ⟨gS,3,none⟩=some (.int .i64 z)):=fun W u=>by
  have h:=row_updH r0.out u
  exact ⟨cell_of_row _ gS 0 _ _ _ h,cell_of_row _ gS 1 _ _ _ h,cell_of_row _ gS 2 _ _ _ h,cell_of_row _ gS 3 _ _ _ h⟩
 have ud0:Upd [] [] w0 w0.drew:=(Upd.refl _ _).drew
 clear hx hv hc hz
 go_enter Tryz.func23,Tryz.ntmps23
 go_upto_region 1 with (fail)
 refine wp_region_noPanic ?_
 refine wp_region_held_drew (S:=fun wp=>wp.cell? ⟨gS,0,none⟩=some (.int .i64 x)∧wp.cell? ⟨gS,1,none⟩=some (.int .i64 v)∧wp.cell? ⟨gS,2,none⟩=some (.int .i64 c)∧wp.cell? ⟨gS,3,none⟩=some (.int .i64 z)) (by kernel_rfl) ?_ (fun hHeld=>?_)
 · exact HK.out _ ud0
 refine tkY 0 hHeld ?_
 refine tkY 1 hHeld ?_
 refine tkY 4 hHeld ?_
 refine tkY 5 hHeld ?_
 refine tkY 9 hHeld ?_
 refine tkY 10 hHeld ?_
 refine tkY 11 hHeld ?_
 refine tkY 15 hHeld ?_
 refine tkY 16 hHeld ?_
 refine tkY 17 hHeld ?_
 refine tk1 2 fun K hK=>?_
 go_simp;refine (decimal09_any x _ HI.out.1).mono ?_;rintro e wv1 ⟨y1,HY1,hy1,rfl,hq⟩;have ud1:=ud0.trans hq;clear hq;have t1:¬ 9223372036854775807<y1.size+1:=(by have:=HL.out;omega);go_wp2_with fail
 refine tkK hK (HK.out _ ud1) fun hHeld=>?_
 clear hK K
 refine tkY 3 hHeld ?_
 refine tk1 6 fun K hK=>?_
 go_simp;refine (decimal09_any v _ HI.out.2.1).mono ?_;rintro e wv2 ⟨y2,HY2,hy2,rfl,hq⟩;have ud2:=ud1.trans hq;clear hq;have t2:¬ 9223372036854775807<y1.size+1+y2.size:=(by have:=HL.out;omega);have t3:¬ 9223372036854775807<y1.size+1+y2.size+1:=(by have:=HL.out;omega);go_wp2_with fail
 refine tkK hK (HK.out _ ud2) fun hHeld=>?_
 clear hK K
 refine tkY 7 hHeld ?_
 refine tkY 8 hHeld ?_
 refine tk1 12 fun K hK=>?_
 go_simp;refine (decimal09_any c _ HI.out.2.2.1).mono ?_;rintro e wv3 ⟨y3,HY3,hy3,rfl,hq⟩;have ud3:=ud2.trans hq;clear hq;have t4:¬ 9223372036854775807<y1.size+1+y2.size+1+y3.size:=(by have:=HL.out;omega);have t5:¬ 9223372036854775807<y1.size+1+y2.size+1+y3.size+1:=(by have:=HL.out;omega);go_wp2_with fail
 refine tkK hK (HK.out _ ud3) fun hHeld=>?_
 clear hK K
 refine tkY 13 hHeld ?_
 refine tkY 14 hHeld ?_
 refine tk1 18 fun K hK=>?_
 go_simp;refine (decimal09_any z _ HI.out.2.2.2).mono ?_;rintro e wv4 ⟨y4,HY4,hy4,rfl,hq⟩;have ud4:=ud3.trans hq;clear hq;have t6:¬ 9223372036854775807<y1.size+1+y2.size+1+y3.size+1+y4.size:=(by have:=HL.out;omega);go_wp2_with fail
 refine tkK hK (HK.out _ ud4) fun hHeld=>?_
 clear hK K
 refine tkY 19 hHeld ?_
 refine tkY 20 hHeld ?_
 refine wpAnyH_done (by kernel_rfl) ?_ _
 refine NoPanic.normal ?_
 go_wp2_with fail
 go_ret
 have e9:bs (y1 ++ ByteArray.mk #[32] ++ y2 ++ ByteArray.mk #[32] ++ y3 ++ ByteArray.mk #[32] ++ y4)=partL x v c z:=by
  have e32:bs (ByteArray.mk #[32])=[32]:=rfl
  rw [bs_append,bs_append,bs_append,bs_append,bs_append,bs_append,HY1.out,HY2.out,HY3.out,HY4.out,e32]
  simp [partL,Lib.join,List.intercalate_cons_cons]
 exact ⟨_,e9,by rw [bs_size e9];exact Nat.le_refl _,rfl,U0.out.trans ud4⟩
end Go.Proofs.YtmjlkkbbnkanpaaGreatDoor
