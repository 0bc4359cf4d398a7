/- digest.Read: a hash's text, read: the walk and what follows. -/
import Derived.Test.YtmjlkkbbnkanpaaGreatDoorHAK
import Derived.Test.YtmjlkkbbnkanpaaGreatDoorHAJ
import Derived.Test.YtmjlkkbbnkanpaaGreatDoorHAD
import Derived.Lib.SplitLaws
namespace Go.Proofs.YtmjlkkbbnkanpaaGreatDoor
open Go.RowKit
set_option maxRecDepth 100000
theorem idx_is (c:UInt8) (w:World):Calls Tryz.prog 276 #[.string ⟨#[48,49,50,51,52,53,54,55,56,57,97,98,99,100,101,102]⟩,.int .u8 (c.toNat:Int)] w (fun e w'=>e=.returned (.int .i64 (match digH c with | some n=>(n:Int) | none=>-1))∧w'=w):=by
 refine (Tryz.strings_IndexByte _ (c.toNat:Int) w).mono ?_
 rintro e w' ⟨rfl,rfl⟩
 refine ⟨?_,rfl⟩
 have h:=digit_index c
 have e1:((c.toNat:Int)).toNat.toUInt8=c:=by simp
 rw [e1]
 exact congrArg (fun x=>Ending.returned (.int .i64 x)) h
theorem idx_some {c:UInt8} {n:Nat} (h:digH c=some n) (w:World):Calls Tryz.prog 276 #[.string ⟨#[48,49,50,51,52,53,54,55,56,57,97,98,99,100,101,102]⟩,.int .u8 (c.toNat:Int)] w (fun e w'=>e=.returned (.int .i64 (n:Int))∧w'=w):=by
 have:=idx_is c w
 rw [h] at this
 exact this
theorem idx_none {c:UInt8} (h:digH c=none) (w:World):Calls Tryz.prog 276 #[.string ⟨#[48,49,50,51,52,53,54,55,56,57,97,98,99,100,101,102]⟩,.int .u8 (c.toNat:Int)] w (fun e w'=>e=.returned (.int .i64 (-1))∧w'=w):=by
 have:=idx_is c w
 rw [h] at this
 exact this
def zero32:List UInt8:=List.replicate 32 0
theorem hashInfo {l:List UInt8} (h:l.length=32):(Tryz.prog.info? 64).map (·.size)=some (byteVals l).toArray.size:=by
 rw [show (byteVals l).toArray.size=32 by simp [byteVals,h]]
 kernel_rfl
theorem hashOne (l:List UInt8):(byteVals l).toArray.all (·.oneCell')=true:=by
 rw [Array.all_eq_true_iff_forall_mem]
 intro v hv
 exact byteVals_one _ v (by simpa using hv)
theorem AB.setRow {T:TypeId} {w:World} {g:Nat} {c:List UInt8} (h:AB T w g c) (d:List UInt8):AB T (w.setRow g (byteVals d).toArray) g d:=setRow_heap w g _ _ _ _ h
theorem AB.other {T:TypeId} {w:World} {g L j:Nat} {c:List UInt8} (h:AB T w g c) (n:g≠L) (v:Value):AB T (w.setCell ⟨L,j,none⟩ v) g c:=by
 unfold AB at h ⊢
 rw [((Upd.refl [L] w).setCell (p:=⟨L,j,none⟩) (by simp) v).block g (Array.getElem?_eq_some_iff.1 h).1 (by simpa using n)]
 exact h
set_option maxHeartbeats 2000000 in
theorem hexRead_any (s:ByteArray) (w:World):Calls Tryz.prog 235 #[.string s] w (MkHash (bs s) w):=by
 have hz:zero32.length=32:=by simp [zero32]
 have hr1:AB 64 (w.alloc (.cells (byteVals zero32).toArray 64)) w.heap.size zero32:=heap_alloc_new _ _
 by_cases h64:s.size=64
 case neg =>
  have HR1:=Lib.hid hr1
  have HZ:=Lib.hid hz
  have hq:¬ (s.size:Int)=64:=by omega
  clear hr1 hz
  go_enter Tryz.func235,Tryz.ntmps235
  go_wp2_with (first | (refine wpList_store_row rfl 64 _ _ rfl w.heap.size (byteVals zero32).toArray rfl rfl _ _ HR1.out (hashInfo HZ.out) rfl (hashOne _) ?_))
  refine bodyPost_ret (results_row_tmp rfl _ _ w.heap.size _ (byteVals zero32).toArray _ _ rfl (HR1.out.setRow zero32) Tryz.underlying64 rfl (hashInfo HZ.out)) rfl ⟨zero32,false,hexOk_len (by rw [bs_length];exact h64),rfl,((Upd.refl _ _).alloc _).setRowNew (Nat.le_refl _) _⟩
 case pos =>
  have hr2:AB 64 ((w.alloc (.cells (byteVals zero32).toArray 64)).alloc (.cells (byteVals zero32).toArray 64)) (w.heap.size+1) zero32:=by
   have h:=heap_alloc_new (w.alloc (.cells (byteVals zero32).toArray 64)) (.cells (byteVals zero32).toArray 64)
   rw [World.size_alloc] at h
   exact h
  have HR1:=Lib.hid (hr1.upd ((Upd.refl [] _).alloc (.cells (byteVals zero32).toArray 64)))
  have HR2:=Lib.hid hr2
  have HZ:=Lib.hid hz
  have hq:(s.size:Int)=64:=by omega
  clear hr1 hr2 hz
  go_enter Tryz.func235,Tryz.ntmps235
  go_wp2_with fail
  go_loopw [5,6,13] (fun _ _ i wr=>∃ k:Nat,i=.int .i64 (k:Int)∧k≤64∧Hid (AB 64 wr (w.heap.size+1) (fillH ((bs s).take k) ++ List.replicate (32 - (k+1) / 2) 0))∧Hid (AB 64 wr w.heap.size zero32)∧Hid (digs16 ((bs s).take k))∧Hid (Upd [] [] w wr)) (fun _ _ i _=>64 - (intOf i).toNat)
  case atStart=>exact ⟨0,rfl,Nat.zero_le _,HR2.out,HR1.out,fun c h=>by simp at h,((Upd.refl _ _).alloc _).alloc _⟩
  case round =>
   obtain ⟨k,rfl,hk,HA,HR,HD,HU⟩:=hrel
   by_cases hlt:k<64
   · have hks:k<s.size:=by omega
     have hc:=bs_get' s k hks
     have HC:=Lib.hid hc
     clear hc
     have i0:(0:Int)≤(k:Int):=by omega
     have i1:(k:Int)<64:=by omega
     cases hd:digH s[k] with
     | none =>
      have HN:=Lib.hid (hexOk_dig (t:=bs s) (List.mem_of_getElem? HC.out) hd)
      have hct:=idx_none hd
      clear hd
      go_wp2_with fail
      refine (hct wr).mono ?_
      rintro e w1 ⟨rfl,rfl⟩
      go_wp2_with (first | (refine wpList_store_row rfl 64 _ _ rfl w.heap.size (byteVals zero32).toArray rfl rfl _ _ HR.out (hashInfo HZ.out) rfl (hashOne _) ?_))
      refine bodyPost_ret (results_row_tmp rfl _ _ w.heap.size _ (byteVals zero32).toArray _ _ rfl (HR.out.setRow zero32) Tryz.underlying64 rfl (hashInfo HZ.out)) rfl ⟨zero32,false,HN.out,rfl,HU.out.setRowNew (Nat.le_refl _) _⟩
     | some n =>
      obtain ⟨hdv,hn16⟩:=dv_of hd
      have hct:=idx_some hd
      have HD2:Hid (digs16 ((bs s).take (k+1))):=by
       intro c hcm
       rw [List.take_add_one,HC.out] at hcm
       rcases List.mem_append.1 hcm with h | h
       · exact HD.out c h
       · rw [show c=s[k] by simpa using h]
         exact ⟨n,hd⟩
      have HDG:=Lib.hid hd
      have HDV:=Lib.hid hdv
      clear hd hdv
      by_cases hev:k % 2=0
      · obtain ⟨m,rfl⟩:∃ m,k=2 * m:=⟨k / 2,by omega⟩
        have hA2:=(HA.out.set m (dv s[2 * m])).upd (Upd.refl [] _)
        rw [show (2 * m+1) / 2=m by omega,fill_even HC.out (by omega)] at hA2
        have hcell:=HA.out.cell (j:=m) (b:=0) (by rw [show (2 * m+1) / 2=m by omega,List.getElem?_append_right (by rw [fillH_len,List.length_take,bs_length];omega),List.getElem?_replicate,if_pos (by rw [fillH_len,List.length_take,bs_length];omega)])
        have hfz:=HA.out.frozen m
        have e1:((2 * m:Nat):Int).tdiv 2=(m:Int):=by rw [Int.tdiv_eq_ediv_of_nonneg (by omega)];omega
        have e2:((2 * m:Nat):Int) / 2=(m:Int):=by omega
        have b0:(0:Int)≤(m:Int):=by omega
        have b1:(m:Int)<32:=by omega
        rw [show 32 - (m+1)=32 - (2 * m+1+1) / 2 by omega] at hA2
        have HA2:=Lib.hid hA2
        clear hA2 hev
        go_wp2_with fail
        refine (hct wr).mono ?_
        rintro e w1 ⟨rfl,rfl⟩
        have vb:Go.bits .or .u8 0 (n:Int)=((dv s[2 * m]).toNat:Int):=by
         have h:=or_digit 0 (by omega) n hn16
         rw [HDV.out]
         simpa using h
        go_wp2_with fail
        refine ⟨⟨2 * m+1,by go_num,by omega,HA2.out,HR.out.other (by omega) _,HD2.out,HU.out.setNew (p:=⟨_,_,none⟩) (by show w.heap.size≤w.heap.size+1;omega) _⟩,by simp [intOf];omega⟩
      · obtain ⟨m,rfl⟩:∃ m,k=2 * m+1:=⟨k / 2,by omega⟩
        have ha0:=bs_get' s (2 * m) (by omega)
        obtain ⟨f1,f2⟩:=fill_odd ha0 HC.out
        obtain ⟨o,ho⟩:∃ o,digH s[2 * m]=some o:=HD.out s[2 * m] (by
         refine List.mem_of_getElem? (i:=2 * m) ?_
         rw [List.getElem?_take_of_lt (by omega)]
         exact ha0)
        obtain ⟨hov,ho16⟩:=dv_of ho
        have hA:=HA.out
        rw [show (2 * m+1+1) / 2=m+1 by omega] at hA
        have hcell:=hA.cell f1
        rw [hov] at hcell
        have hA2:=hA.set m (UInt8.ofNat (16 * (dv s[2 * m]).toNat+(dv s[2 * m+1]).toNat))
        rw [f2,hov,HDV.out] at hA2
        have hfz:=HA.out.frozen m
        have e1:((2 * m+1:Nat):Int).tdiv 2=(m:Int):=by rw [Int.tdiv_eq_ediv_of_nonneg (by omega)];omega
        have e2:((2 * m+1:Nat):Int) / 2=(m:Int):=by omega
        have e3:(2 * (m:Int)+1) / 2=(m:Int):=by omega
        have b0:(0:Int)≤(m:Int):=by omega
        have b1:(m:Int)<32:=by omega
        rw [show 32 - (m+1)=32 - (2 * m+1+1+1) / 2 by omega] at hA2
        have HA2:=Lib.hid hA2
        have HHA:=Lib.hid hA
        clear hA2 hA hev f1 f2 ha0 ho hov HA
        go_wp2_with fail
        refine (hct wr).mono ?_
        rintro e w1 ⟨rfl,rfl⟩
        have vb:Go.bits .or .u8 ((o:Int) * 16) (n:Int)=((UInt8.ofNat (16 * o+n)).toNat:Int):=by
         have h:=or_digit o ho16 n hn16
         rw [show ((16 * o:Nat):Int)=(o:Int) * 16 by omega] at h
         rw [h,UInt8.toNat_ofNat',Nat.mod_eq_of_lt (by omega)]
        go_wp2_with fail
        refine ⟨⟨2 * m+1+1,by go_num,by omega,HA2.out,HR.out.other (by omega) _,HD2.out,HU.out.setNew (p:=⟨_,_,none⟩) (by show w.heap.size≤w.heap.size+1;omega) _⟩,by simp [intOf];omega⟩
   · obtain rfl:k=64:=by omega
     obtain ⟨H,hH⟩:∃ H,H=fillH (bs s):=⟨_,rfl⟩
     have hA:=HA.out
     have hD:=HD.out
     have hsl:(bs s).length=64:=by rw [bs_length];exact h64
     rw [List.take_of_length_le (by omega)] at hA hD
     have hy:=hexOk_yes hsl hD
     rw [show 32 - (64+1) / 2=0 by omega,List.replicate_zero,List.append_nil,← hH] at hA
     rw [← hH] at hy
     have HL:=Lib.hid hy.1
     have HY:=Lib.hid hy
     have HA2:=Lib.hid hA
     clear hA hD hy hH HA hlt hk
     go_wp2_with (first | (refine wpList_load_row rfl 64 _ rfl (w.heap.size+1) rfl _ (byteVals H).toArray _ _ HA2.out Tryz.underlying64 rfl (hashInfo HL.out) ?_) | (refine wpList_store_row rfl 64 _ _ rfl w.heap.size (byteVals H).toArray rfl rfl _ _ HR.out (hashInfo HL.out) (by simp [byteVals,HL.out,HZ.out]) (hashOne _) ?_))
     refine bodyPost_ret (results_row_tmp rfl _ _ w.heap.size _ (byteVals H).toArray _ _ rfl (HR.out.setRow H) Tryz.underlying64 rfl (hashInfo HL.out)) rfl ⟨H,true,HY.out,rfl,HU.out.setRowNew (Nat.le_refl _) _⟩

def TrueMk (w:World) (e:Ending) (w':World):Prop:=e=.returned (.bool true)∧Upd [] [] w w'
theorem itoa_3:Lib.itoa 3=[51]:=by
 show Lib.decDigits 3=_
 rw [Lib.decDigits_one (by omega)]
 rfl
def RcAt (w:World) (g:Nat) (x:Rc):Prop:=w.heap[g]? =some (.cells (rcV x).toArray 76 (0,0))
theorem mid_get {A B C:List Value} {o j:Nat} {v:Value} (ho:A.length=o) (h:B[j]? =some v):(A ++ (B ++ C))[o+j]? =some v:=by
 have hj:=(List.getElem?_eq_some_iff.1 h).1
 rw [List.getElem?_append_right (by omega),show o+j - A.length=j by omega,List.getElem?_append_left hj]
 exact h
def evV (c:UInt8) (r s:Int):List Value:=[.int .i64 5,.int .i64 4,.int .i64 3,.int .i64 0,.int .i64 0,.string ⟨#[c]⟩] ++ (byteVals zero32 ++ [.int .i64 r,.int .i64 s])
theorem evV_len (c:UInt8) (r s:Int):(evV c r s).length=40:=by simp [evV,byteVals,zero32]
theorem evV_one (c:UInt8) (r s:Int):∀ u∈evV c r s,u.oneCell'=true:=by
 intro u hu
 simp only [evV,List.mem_append,List.mem_cons,List.not_mem_nil,or_false] at hu
 rcases hu with (rfl | rfl | rfl | rfl | rfl | rfl) | hu | rfl | rfl
 all_goals first | rfl | exact byteVals_one _ _ hu
def tOf (c:UInt8):List UInt8:=tPre ++ [c]
def wEv:List UInt8:=[101,118,101,110,116]
def codeL (c:UInt8):List UInt8:=[48,32,48,32] ++ tOf c
theorem tOf_len (c:UInt8):(tOf c).length=84:=by simp [tOf,tPre,zeros64]
theorem itoa_d (n:Nat) (h:n<10):Lib.itoa (n:Int)=[UInt8.ofNat (48+n)]:=by
 unfold Lib.itoa
 rw [if_neg (by omega),Int.toNat_natCast,Lib.decDigits_one h]
theorem itoa_5:Lib.itoa 5=[53]:=itoa_d 5 (by omega)
theorem itoa_4:Lib.itoa 4=[52]:=itoa_d 4 (by omega)
theorem itoa_0:Lib.itoa 0=[48]:=itoa_d 0 (by omega)
theorem itoa_1:Lib.itoa 1=[49]:=itoa_d 1 (by omega)
theorem hex_zero:hexL zero32=zeros64:=by decide
theorem evt_join (c:UInt8):Lib.join [wEv,[53],[52],[51],[48],[48],zeros64,[49,58,c]] [32]=tOf c:=by
 simp [Lib.join,List.intercalate_cons_cons,tOf,tPre,wEv]
theorem splitK_hit {c:UInt8} {k:Nat} {a b:List UInt8} (h:c ∉ a):Lib.splitK [c] 0 (k+1) (a ++ c :: b)=a :: Lib.splitK [c] 0 k b:=by
 have hi:=index_hit1 c a b h
 have h1:(a ++ c :: b).take a.length=a:=List.take_left
 have h2:(a ++ c :: b).drop (a.length+1)=b:=by
  rw [show a ++ c :: b=(a ++ [c]) ++ b by simp,show a.length+1=(a ++ [c]).length by simp]
  exact List.drop_left
 rw [Lib.splitK,hi,if_neg (by simp),Int.toNat_natCast,Nat.add_zero,h1]
 show a :: Lib.splitK [c] 0 k ((a ++ c :: b).drop (a.length+1))=_
 rw [h2]
theorem splitB_of {s sep:ByteArray} {k:Nat} {l:List (List UInt8)} (h:Lib.splitK (bs sep) 0 k (bs s)=l):Lib.splitB sep 0 k s=l.map (fun x=>⟨x.toArray⟩):=by
 have e:=Lib.splitB_data sep 0 k s
 have e2:(Lib.splitB sep 0 k s).map (·.data.toList)=l:=e.trans h
 rw [← e2,List.map_map]
 conv=>lhs;rw [← List.map_id (Lib.splitB sep 0 k s)]
 refine List.map_congr_left fun x _=>?_
 exact bs_inj rfl
theorem tOf_count {c:UInt8} (h:c≠32) {s:ByteArray} (hs:bs s=tOf c):Lib.countB s ⟨#[32]⟩=7:=by
 have e:Lib.countB s ⟨#[32]⟩=(bs s).count 32:=Lib.count_one 32 (bs s)
 rw [e,hs,tOf,List.count_append,show tPre.count 32=7 by decide,List.count_cons_of_ne (by simpa using h)]
 rfl
structure EvG where
 q:Int
 k:Int
 h:Int
 t:Int
 n:Int
 x:ByteArray
 p:List UInt8
 r:Int
 s:Int
def EvG.ok (e:EvG):Prop:=i64in e.q∧i64in e.k∧i64in e.h∧i64in e.t∧i64in e.n∧e.p.length=32∧i64in e.r∧i64in e.s
def EvG.V (e:EvG):List Value:=[.int .i64 e.q,.int .i64 e.k,.int .i64 e.h,.int .i64 e.t,.int .i64 e.n,.string e.x] ++ (byteVals e.p ++ [.int .i64 e.r,.int .i64 e.s])
theorem EvG.V_len {e:EvG} (h:e.p.length=32):e.V.length=40:=by simp [EvG.V,byteVals,h]
theorem EvG.V_one (e:EvG):∀ u∈e.V,u.oneCell'=true:=by
 intro u hu
 simp only [EvG.V,List.mem_append,List.mem_cons,List.not_mem_nil,or_false] at hu
 rcases hu with (rfl | rfl | rfl | rfl | rfl | rfl) | hu | rfl | rfl
 all_goals first | rfl | exact byteVals_one _ _ hu
def wordG (t:List UInt8):List UInt8:=Lib.itoa (t.length:Int) ++ 58 :: t
def EvG.parts (e:EvG):List (List UInt8):=[Lib.itoa e.r,Lib.itoa e.s,wEv,Lib.itoa e.q,Lib.itoa e.k,Lib.itoa e.h,Lib.itoa e.t,Lib.itoa e.n,hexL e.p,wordG (bs e.x)]
def EvG.text (e:EvG):List UInt8:=wEv ++ 32 :: (Lib.itoa e.q ++ 32 :: (Lib.itoa e.k ++ 32 :: (Lib.itoa e.h ++ 32 :: (Lib.itoa e.t ++ 32 :: (Lib.itoa e.n ++ 32 :: (hexL e.p ++ 32 :: wordG (bs e.x)))))))
def EvG.code (e:EvG):List UInt8:=Lib.itoa e.r ++ 32 :: (Lib.itoa e.s ++ 32 :: e.text)
theorem EvG.text_join (e:EvG):Lib.join [wEv,Lib.itoa e.q,Lib.itoa e.k,Lib.itoa e.h,Lib.itoa e.t,Lib.itoa e.n,hexL e.p,wordG (bs e.x)] [32]=e.text:=by
 simp [Lib.join,List.intercalate_cons_cons,EvG.text]
theorem EvG.code_len (e:EvG):9≤e.code.length:=by
 simp only [EvG.code,EvG.text,List.length_append,List.length_cons]
 omega
theorem EvG.text_len {e:EvG} (h:e.ok) (z:e.x.size≤1000000000):e.text.length≤e.x.size+250:=by
 obtain ⟨a,b,c,d,f,g,_,_⟩:=h
 have h1:=itoa_len _ a
 have h2:=itoa_len _ b
 have h3:=itoa_len _ c
 have h4:=itoa_len _ d
 have h5:=itoa_len _ f
 have h6:=hexL_len e.p
 have h7:=itoa_len ((bs e.x).length:Int) (by rw [bs_length];unfold i64in;omega)
 have h8:(bs e.x).length=e.x.size:=bs_length _
 simp only [EvG.text,wordG,List.length_append,List.length_cons]
 have:wEv.length=5:=rfl
 omega
theorem wEv_no32:(32:UInt8) ∉ wEv:=by decide
theorem EvG.code_split (e:EvG):Lib.splitK [32] 0 9 e.code=e.parts:=by
 unfold EvG.code EvG.text
 rw [splitK_hit (itoa_no32 _),splitK_hit (itoa_no32 _),splitK_hit wEv_no32,splitK_hit (itoa_no32 _),splitK_hit (itoa_no32 _),splitK_hit (itoa_no32 _),splitK_hit (itoa_no32 _),splitK_hit (itoa_no32 _),splitK_hit (hexL_no32 _)]
 rfl
def IsCode (l:List UInt8) (e:EvG):Prop:=e.ok∧l=e.code
theorem word_cut (t:List UInt8) (R:List UInt8):Lib.cut (Lib.itoa (t.length:Int) ++ 58 :: R) [58]=(Lib.itoa (t.length:Int),R,true):=cut_hit 58 _ _ (itoa_no58 _)
theorem word_inj {a b A B:List UInt8} (ha:a.length≤9223372036854775807) (hb:b.length≤9223372036854775807) (h:wordG a ++ A=wordG b ++ B):a=b∧A=B:=by
 have e1:wordG a ++ A=Lib.itoa (a.length:Int) ++ 58 :: (a ++ A):=by simp [wordG]
 have e2:wordG b ++ B=Lib.itoa (b.length:Int) ++ 58 :: (b ++ B):=by simp [wordG]
 rw [e1,e2] at h
 have c1:=word_cut a (a ++ A)
 rw [h,word_cut b (b ++ B)] at c1
 injection c1 with c1 c2
 injection c2 with c2 _
 have hl:(b.length:Int)=(a.length:Int):=itoa_inj (by unfold i64in;omega) (by unfold i64in;omega) c1
 have hl:b.length=a.length:=by omega
 have:=List.append_inj c2 hl
 exact ⟨this.1.symm,this.2.symm⟩
theorem isCode_inj {l:List UInt8} {e f:EvG} (he:IsCode l e) (hf:IsCode l f) (ze:e.x.size≤1000000000) (zf:f.x.size≤1000000000):e=f:=by
 obtain ⟨⟨a1,a2,a3,a4,a5,a6,a7,a8⟩,he⟩:=he
 obtain ⟨⟨b1,b2,b3,b4,b5,b6,b7,b8⟩,hf⟩:=hf
 have h:=e.code_split
 rw [← he,hf,f.code_split] at h
 simp only [EvG.parts,List.cons.injEq,and_true,true_and] at h
 obtain ⟨h1,h2,h3,h4,h5,h6,h7,h8,h9⟩:=h
 cases e with
 | mk q k hh t n x p r s =>
 cases f with
 | mk q' k' hh' t' n' x' p' r' s' =>
 dsimp only at *
 obtain rfl:=itoa_inj b7 a7 h1
 obtain rfl:=itoa_inj b8 a8 h2
 obtain rfl:=itoa_inj b1 a1 h3
 obtain rfl:=itoa_inj b2 a2 h4
 obtain rfl:=itoa_inj b3 a3 h5
 obtain rfl:=itoa_inj b4 a4 h6
 obtain rfl:=itoa_inj b5 a5 h7
 obtain rfl:=hexL_inj h8
 have hw:=word_inj (a:=bs x') (b:=bs x) (A:=[]) (B:=[]) (by rw [bs_length];omega) (by rw [bs_length];omega) (by rw [List.append_nil,List.append_nil];exact h9)
 obtain rfl:=bs_inj hw.1
 rfl
theorem IsCode.size {l:List UInt8} {e:EvG} (h:IsCode l e):e.x.size≤l.length:=by
 rw [h.2,← bs_length]
 simp only [EvG.code,EvG.text,wordG,List.length_append,List.length_cons]
 omega
def rcS (g:Nat) (x:Rc) (w:World):Prop:=w.cell? ⟨g,0,none⟩=some (.int .i64 x.kiosk)∧w.cell? ⟨g,1,none⟩=some (.int .i64 x.serial)∧w.cell? ⟨g,2,none⟩=some (.string x.draw)∧w.cell? ⟨g,3,none⟩=some (.int .i64 x.seen)∧w.rangeAt g 4 (byteVals x.out)∧w.rangeAt g 36 (byteVals x.hash)∧w.rangeAt g 68 (byteVals x.prev)
theorem strsIn_new (w:World) (xs:List ByteArray) (T:TypeId):StrsIn (w.alloc (.cells (xs.map Value.string).toArray T)) w.heap.size xs:=by
 refine ⟨by rw [World.size_alloc];omega,fun j x hx=>?_⟩
 rw [cell_of_row _ _ _ _ _ _ (heap_alloc_new w _),List.getElem?_toArray,Nat.zero_add,List.getElem?_map,hx]
 rfl
end Go.Proofs.YtmjlkkbbnkanpaaGreatDoor
