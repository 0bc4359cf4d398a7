/- number of day and of court, day.word, day.cutWord, at any text and what follows. -/
import Derived.Test.YtheobkejohifaaaGreatDoorHAT
import Derived.Test.YtheobkejohifaaaGreatDoorHAJ
import Derived.Test.YtheobkejohifaaaGreatDoorHAS
import Derived.Test.YtheobkejohifaaaGreatDoorHAA
import Derived.Test.YtheobkejohifaaaGreatDoorHAK
namespace Go.Proofs.YtheobkejohifaaaGreatDoor
open Go.RowKit
set_option maxRecDepth 100000
set_option maxHeartbeats 1000000 in
theorem pca (s:ByteArray) (w:World) (hs:s.size≤4000000000) (htab:Tabs w):Calls Tryz.prog 220 #[.string s] w (pqJ (bs s) w):=by
 by_cases hv:∃ v,Lib.atoiAll (bs s)=.ok v
 · obtain ⟨v,hv⟩:=hv
   have hvi:pab v:=Lib.atoiAll_bounds hv
   have HA:=Lib.hid (pdW s v w (by omega) hv)
   have HI:=Lib.hid (fun W (u:Upd [] [] w W)=>paD v W hvi (htab.upd u))
   have HN:Hid (∀ m,pab m→bs s=Lib.itoa m→m=v):=by
    intro m hm e
    rw [e,paH m hm] at hv
    injection hv
   clear hv hs
   go_enter Tryz.func220,Tryz.ntmps220
   go_wp2_with fail
   refine HA.out.mono ?_
   rintro e w1 ⟨rfl,hu⟩
   have HU:=Lib.hid hu
   clear hu HA
   go_wp2_with fail
   refine (HI.out w1 HU.out).mono ?_
   rintro e w2 ⟨y,HY,_,rfl,hu⟩
   have HU2:=Lib.hid (HU.out.trans hu)
   clear hu HI HU
   by_cases hys:y=s
   · have HYS:Hid (bs s=Lib.itoa v):=by show _=_;rw [← hys];exact HY.out
     have g1:(y.toList == s.toList)=true:=pbA.2 (by rw [hys])
     clear hys HY
     go_wp2_with fail
     go_ret2
     exact ⟨v,true,⟨hvi,fun _=>HYS.out,fun h=>by cases h⟩,hvi,rfl,HU2.out⟩
   · have HYS:Hid (¬ pk4 (bs s)):=by
      rintro ⟨m,hm,e⟩
      obtain rfl:=HN.out m hm e
      exact hys (paM (HY.out.trans e.symm))
     have g1:(y.toList == s.toList)=false:=by rw [← Bool.not_eq_true];exact fun h=>hys (paM (pbA.1 h))
     clear hys HY
     go_wp2_with fail
     go_ret2
     exact ⟨0,false,pdH HYS.out,⟨by omega,by omega⟩,rfl,HU2.out⟩
 · have hv':∀ v,Lib.atoiAll (bs s)≠.ok v:=fun v e=>hv ⟨v,e⟩
   have HA:=Lib.hid (pcU s w (by omega) hv' htab)
   have HYS:Hid (¬ pk4 (bs s)):=by
    rintro ⟨m,hm,e⟩
    exact hv' m (by rw [e];exact paH m hm)
   clear hv hv' hs
   go_enter Tryz.func220,Tryz.ntmps220
   go_wp2_with fail
   refine HA.out.mono ?_
   rintro e w1 ⟨v,N,rfl,hvi,hu⟩
   have HU:=Lib.hid hu
   clear hu HA
   go_wp2_with fail
   go_ret2
   exact ⟨0,false,pdH HYS.out,⟨by omega,by omega⟩,rfl,HU.out⟩
set_option maxHeartbeats 1000000 in
theorem peN (s:ByteArray) (w:World) (hs:s.size≤4000000000) (htab:Tabs w):Calls Tryz.prog 184 #[.string s] w (pqJ (bs s) w):=by
 by_cases hv:∃ v,Lib.atoiAll (bs s)=.ok v
 · obtain ⟨v,hv⟩:=hv
   have hvi:pab v:=Lib.atoiAll_bounds hv
   have HA:=Lib.hid (pdW s v w (by omega) hv)
   have HI:=Lib.hid (fun W (u:Upd [] [] w W)=>paD v W hvi (htab.upd u))
   have HN:Hid (∀ m,pab m→bs s=Lib.itoa m→m=v):=by
    intro m hm e
    rw [e,paH m hm] at hv
    injection hv
   clear hv hs
   go_enter Tryz.func184,Tryz.ntmps184
   go_wp2_with fail
   refine HA.out.mono ?_
   rintro e w1 ⟨rfl,hu⟩
   have HU:=Lib.hid hu
   clear hu HA
   go_wp2_with fail
   refine (HI.out w1 HU.out).mono ?_
   rintro e w2 ⟨y,HY,_,rfl,hu⟩
   have HU2:=Lib.hid (HU.out.trans hu)
   clear hu HI HU
   by_cases hys:y=s
   · have HYS:Hid (bs s=Lib.itoa v):=by show _=_;rw [← hys];exact HY.out
     have g1:(y.toList == s.toList)=true:=pbA.2 (by rw [hys])
     clear hys HY
     go_wp2_with fail
     go_ret2
     exact ⟨v,true,⟨hvi,fun _=>HYS.out,fun h=>by cases h⟩,hvi,rfl,HU2.out⟩
   · have HYS:Hid (¬ pk4 (bs s)):=by
      rintro ⟨m,hm,e⟩
      obtain rfl:=HN.out m hm e
      exact hys (paM (HY.out.trans e.symm))
     have g1:(y.toList == s.toList)=false:=by rw [← Bool.not_eq_true];exact fun h=>hys (paM (pbA.1 h))
     clear hys HY
     go_wp2_with fail
     go_ret2
     exact ⟨0,false,pdH HYS.out,⟨by omega,by omega⟩,rfl,HU2.out⟩
 · have hv':∀ v,Lib.atoiAll (bs s)≠.ok v:=fun v e=>hv ⟨v,e⟩
   have HA:=Lib.hid (pcU s w (by omega) hv' htab)
   have HYS:Hid (¬ pk4 (bs s)):=by
    rintro ⟨m,hm,e⟩
    exact hv' m (by rw [e];exact paH m hm)
   clear hv hv' hs
   go_enter Tryz.func184,Tryz.ntmps184
   go_wp2_with fail
   refine HA.out.mono ?_
   rintro e w1 ⟨v,N,rfl,hvi,hu⟩
   have HU:=Lib.hid hu
   clear hu HA
   go_wp2_with fail
   go_ret2
   exact ⟨0,false,pdH HYS.out,⟨by omega,by omega⟩,rfl,HU.out⟩
theorem pqZ (t:ByteArray) (w:World) (ht:t.size≤1000000000) (htab:Tabs w):Calls Tryz.prog 62 #[.string t] w (MkS (pa4 (bs t)) w):=by
 have HI:Hid (Calls Tryz.prog 36 #[.int .i64 (t.size:Int)] w (MkS (Lib.itoa (t.size:Int)) w)):=paD (t.size:Int) w (by unfold pab;omega) htab
 go_enter Tryz.func62,Tryz.ntmps62
 go_wp2_with fail
 refine HI.out.mono ?_
 rintro e w1 ⟨y,HY,hy,rfl,hu⟩
 have HU:=Lib.hid hu
 clear hu HI
 have l1:=itoa_len (t.size:Int) (by unfold pab;omega)
 go_wp2_with fail
 go_ret
 have hb:bs (y ++ ByteArray.mk #[58] ++ t)=pa4 (bs t):=by
  rw [pae,pae,HY.out,pa4,pac]
  simp [bs]
 exact ⟨_,hb,by rw [← hb,pac];exact Nat.le_refl _,rfl,HU.out⟩
def cutG (l:List UInt8) (t r:ByteArray) (ok:Bool):Prop:=(ok=true→l=pa4 (bs t) ++ bs r)∧(ok=false→∀ a b:List UInt8,a.length≤9223372036854775807→l≠pa4 a ++ b)
def pq0 (s:ByteArray) (w:World) (e:Ending) (w':World):Prop:=∃ (t r:ByteArray) (ok:Bool),Hid (cutG (bs s) t r ok)∧t.size≤s.size∧r.size≤s.size∧e=.returned (.tuple #[.string t,.string r,.bool ok])∧Upd [] [] w w'
theorem peO {l:List UInt8} (h:∀ a b:List UInt8,a.length≤9223372036854775807→l≠pa4 a ++ b):cutG l ⟨#[]⟩ ⟨#[]⟩ false:=⟨fun e=>(by cases e),fun _=>h⟩
theorem pdt (c:UInt8):∀ l:List UInt8,c∈l→∃ a b,l=a ++ c :: b∧c ∉ a
 | [],h=>by cases h
 | x :: r,h=>by
  by_cases hx:x=c
  · exact ⟨[],r,by rw [hx];rfl,by simp⟩
  · rcases List.mem_cons.1 h with h | h
    · exact absurd h.symm hx
    · obtain ⟨a,b,e,hn⟩:=pdt c r h
      refine ⟨x :: a,b,by rw [e];rfl,fun hm=>?_⟩
      rcases List.mem_cons.1 hm with hm | hm
      · exact hx hm.symm
      · exact hn hm
theorem pgY {l x y:List UInt8} {c:UInt8} (h:Lib.cut l [c]=(x,y,true)):l=x ++ c :: y:=by
 by_cases hc:c∈l
 · obtain ⟨a,b,e,hn⟩:=pdt c l hc
   subst e
   rw [pbf c a b hn] at h
   injection h with h1 h2
   injection h2 with h2 _
   rw [h1,h2]
 · rw [pn5 c l hc] at h
   injection h with _ h2
   injection h2 with _ h3
   cases h3
set_option maxHeartbeats 1000000 in
theorem pry (s:ByteArray) (w:World) (hs:s.size≤4000000000) (htab:Tabs w):Calls Tryz.prog 222 #[.string s] w (pq0 s w):=by
 have HC:=Lib.hid (pdn s 58 w hs htab)
 have HN:=Lib.hid (fun W (u:Upd [] [] w W) (t:ByteArray) (ht:t.size≤4000000000)=>pca t W ht (htab.upd u))
 go_enter Tryz.func222,Tryz.ntmps222
 go_wp2_with fail
 refine HC.out.mono ?_
 rintro e w1 ⟨l,r,q,HL,HR,HQ,hl,hr,rfl,hu⟩
 have HU:=Lib.hid hu
 have HCUT:Hid (Lib.cut (bs s) [58]=(bs l,bs r,q)):=by show _=_;rw [HL.out,HR.out,HQ.out]
 clear hu HC HL HR HQ
 cases q
 · have HNO:Hid (∀ a b:List UInt8,a.length≤9223372036854775807→bs s≠pa4 a ++ b):=by
    intro a b _ e
    have h:=HCUT.out
    rw [e,pa4,List.append_assoc,List.cons_append,peM] at h
    injection h with _ h
    injection h with _ h
    cases h
   clear HCUT
   go_wp2_with fail
   go_ret3
   exact ⟨_,_,false,peO HNO.out,Nat.zero_le _,Nat.zero_le _,rfl,HU.out⟩
 · have HS:Hid (bs s=bs l ++ 58 :: bs r):=pgY HCUT.out
   go_wp2_with fail
   refine (HN.out w1 HU.out l (by omega)).mono ?_
   rintro e w2 ⟨n,ok,HO,hn,rfl,hu⟩
   have HU2:=Lib.hid (HU.out.trans hu)
   clear hu HU HN
   obtain ⟨hn1,hn2⟩:=hn
   have HNO:Hid ((ok=false∨n<0∨(r.size:Int)<n)→∀ a b:List UInt8,a.length≤9223372036854775807→bs s≠pa4 a ++ b):=by
    intro hbad a b ha e
    have h:=HCUT.out
    rw [e,pa4,List.append_assoc,List.cons_append,peM] at h
    injection h with h1 h
    injection h with h2 _
    have hi:pab (a.length:Int):=by unfold pab;omega
    cases ok with
    | false=>exact HO.out.2.2 rfl ⟨_,hi,h1.symm⟩
    | true =>
     have e1:=HO.out.2.1 rfl
     rw [← h1] at e1
     have e2:=paI hi ⟨hn1,hn2⟩ e1
     have e3:=congrArg List.length h2
     rw [List.length_append,pac] at e3
     rcases hbad with h | h | h
     · cases h
     · omega
     · omega
   cases ok
   · clear HCUT HS HO
     go_wp2_with fail
     go_ret3
     exact ⟨_,_,false,peO (HNO.out (by first | exact .inl rfl | exact .inl trivial | simp)),Nat.zero_le _,Nat.zero_le _,rfl,HU2.out⟩
   · by_cases hn0:n<0
     · clear HCUT HS HO
       go_wp2_with fail
       go_ret3
       exact ⟨_,_,false,peO (HNO.out (by first | exact .inr (.inl hn0) | simp [hn0])),Nat.zero_le _,Nat.zero_le _,rfl,HU2.out⟩
     · by_cases hnr:(r.size:Int)<n
       · clear HCUT HS HO
         go_wp2_with fail
         go_ret3
         exact ⟨_,_,false,peO (HNO.out (by first | exact .inr (.inr hnr) | simp [hnr])),Nat.zero_le _,Nat.zero_le _,rfl,HU2.out⟩
       · obtain ⟨k,rfl⟩:∃ k:Nat,n=(k:Int):=⟨n.toNat,by omega⟩
         have hkr:k≤r.size:=by omega
         have k1:(k:Int)≤(r.size:Int):=by omega
         have HW:Hid (bs s=pa4 (bs (r.extract 0 k)) ++ bs (r.extract k r.size)):=by
          show _=_
          have e1:((bs r).take k).length=k:=by rw [List.length_take,pac];omega
          rw [HS.out,piY,pgN,pa4,e1,← HO.out.2.1 rfl,List.append_assoc,List.cons_append,List.take_append_drop]
         clear HCUT HS HO HNO
         go_wp2_with fail
         go_quiet (fail)
         go_wp2_with fail
         go_ret3
         have z1:(r.extract 0 k).size≤s.size:=by rw [← pac,piY,List.length_take,pac];omega
         have z2:(r.extract k r.size).size≤s.size:=by rw [← pac,pgN,List.length_drop,pac];omega
         exact ⟨_,_,true,⟨fun _=>HW.out,fun h=>(by cases h)⟩,z1,z2,rfl,HU2.out.drewN _⟩
def EgA (w:World) (g:Nat) (e:EvG):Prop:=w.heap[g]? =some (.cells e.V.toArray 53 (0,0))
theorem EgA.upd {w w':World} {g:Nat} {e:EvG} (h:EgA w g e) (u:Upd [] [] w w'):EgA w' g e:=paa h u
theorem EgA.cell {w:World} {g:Nat} {e:EvG} (h:EgA w g e) (j:Nat):w.cell? ⟨g,j,none⟩=e.V[j]?:=by
 rw [cell_of_row w g j _ _ _ h,List.getElem?_toArray]
theorem EvG.at38 {e:EvG} (h:e.p.length=32):e.V[38]? =some (.int .i64 e.r):=by
 unfold EvG.V
 rw [List.getElem?_append_right (by simp),List.getElem?_append_right (by simp [byteVals,h])]
 simp [byteVals,h]
theorem EvG.at39 {e:EvG} (h:e.p.length=32):e.V[39]? =some (.int .i64 e.s):=by
 unfold EvG.V
 rw [List.getElem?_append_right (by simp),List.getElem?_append_right (by simp [byteVals,h])]
 simp [byteVals,h]
theorem phY {p:List UInt8} (h:p.length=32):(Tryz.prog.info? 51).map (·.size)=some (byteVals p).length:=by
 rw [show (byteVals p).length=32 by simp [byteVals,h]]
 kernel_rfl
theorem EgA.hash {w:World} {g:Nat} {e:EvG} (h:EgA w g e):w.rangeAt g 6 (byteVals e.p):=by
 intro j v hv
 rw [h.cell]
 exact ppR (A:=[.int .i64 e.q,.int .i64 e.k,.int .i64 e.h,.int .i64 e.t,.int .i64 e.n,.string e.x]) rfl hv
theorem EvG.load {w:World} {g:Nat} {e:EvG} {E:Array Value} (hp:e.p.length=32) (hE:E=e.V.toArray) (h:EgA w g e):(Instr.loadAt 53 (.pointer (some ⟨g,0,none⟩))).run Tryz.prog w=.ok (.agg E) w:=by
 subst hE
 refine run_loadAt_mid w g 0 53 _ _ (fun j v hv=>?_) Tryz.underlying53 rfl ?_
 · rw [h.cell,Nat.zero_add];exact hv
 · rw [EvG.V_len hp];kernel_rfl
set_option maxHeartbeats 4000000 in
theorem pni (e:EvG) (he:e.ok) (hx:e.x.size≤1000000000) (w:World) (htab:Tabs w):Calls Tryz.prog 25 #[.agg e.V.toArray] w (MkS e.text w):=by
 obtain ⟨EV,hEV⟩:∃ EV,EV=e.V.toArray:=⟨_,rfl⟩
 obtain ⟨ZH,hZH⟩:∃ ZH,ZH=(byteVals e.p).toArray:=⟨_,rfl⟩
 have HZH:=Lib.hid hZH
 obtain ⟨w0,hw0⟩:∃ w0,w.alloc (.cells EV 53)=w0:=⟨_,rfl⟩
 obtain ⟨g,hg⟩:∃ g,g=w.heap.size:=⟨_,rfl⟩
 have r0:EgA w0 g e:=by rw [hg,← hw0,hEV];exact heap_alloc_new _ _
 have u0:Upd [] [] w w0:=by rw [← hw0];exact (Upd.refl _ _).alloc _
 have HJ:=Lib.hid e.text_join
 have HL:=Lib.hid (EvG.text_len he hx)
 have HOK:=Lib.hid he
 obtain ⟨q,hq0⟩:∃ q,e.q=q:=⟨_,rfl⟩
 obtain ⟨k,hk0⟩:∃ k,e.k=k:=⟨_,rfl⟩
 obtain ⟨h,hh0⟩:∃ h,e.h=h:=⟨_,rfl⟩
 obtain ⟨t,ht0⟩:∃ t,e.t=t:=⟨_,rfl⟩
 obtain ⟨n,hn0⟩:∃ n,e.n=n:=⟨_,rfl⟩
 obtain ⟨x,hx0⟩:∃ x,e.x=x:=⟨_,rfl⟩
 obtain ⟨p,hp0⟩:∃ p,e.p=p:=⟨_,rfl⟩
 have HK:Hid (∀ W,Upd [] [] w0 W→W.cell? ⟨g,0,none⟩=some (.int .i64 q)∧W.cell? ⟨g,1,none⟩=some (.int .i64 k)∧W.cell? ⟨g,2,none⟩=some (.int .i64 h)∧W.cell? ⟨g,3,none⟩=some (.int .i64 t)∧W.cell? ⟨g,4,none⟩=some (.int .i64 n)∧W.cell? ⟨g,5,none⟩=some (.string x)∧(Instr.loadAt 51 (.pointer (some ⟨g,6,none⟩))).run Tryz.prog W=.ok (.agg ZH) W):=by
  intro W u
  have c:=(r0.upd u)
  refine ⟨(c.cell 0).trans ?_,(c.cell 1).trans ?_,(c.cell 2).trans ?_,(c.cell 3).trans ?_,(c.cell 4).trans ?_,(c.cell 5).trans ?_,?_⟩
  · rw [← hq0];rfl
  · rw [← hk0];rfl
  · rw [← hh0];rfl
  · rw [← ht0];rfl
  · rw [← hn0];rfl
  · rw [← hx0];rfl
  · rw [hZH];exact run_loadAt_mid W g 6 51 _ _ c.hash Tryz.underlying51 rfl (phY he.2.2.2.2.2.1)
 have HI:Hid (pab q∧pab k∧pab h∧pab t∧pab n):=by rw [← hq0,← hk0,← hh0,← ht0,← hn0];exact ⟨he.1,he.2.1,he.2.2.1,he.2.2.2.1,he.2.2.2.2.1⟩
 have HP:Hid (p.length=32∧x.size≤1000000000):=by rw [← hp0,← hx0];exact ⟨he.2.2.2.2.2.1,hx⟩
 rw [hp0] at HZH
 have HJ2:Hid (Lib.join [wEv,Lib.itoa q,Lib.itoa k,Lib.itoa h,Lib.itoa t,Lib.itoa n,hexL p,pa4 (bs x)] [32]=e.text):=by
  rw [← hq0,← hk0,← hh0,← ht0,← hn0,← hx0,← hp0]
  exact HJ.out
 have HL2:Hid (e.text.length≤1000000250):=Nat.le_trans HL.out (by omega)
 have HU0:=Lib.hid u0
 have ud0:Upd [] [] w0 w0.drew:=(Upd.refl _ _).drew
 have HG:=Lib.hid hg
 rw [← hEV]
 clear hEV hZH r0 u0 hg he hx HJ HL HOK hq0 hk0 hh0 ht0 hn0 hx0 hp0
 obtain ⟨TX,hTX⟩:∃ l,e.text=l:=⟨_,rfl⟩
 rw [hTX] at HJ2 HL2 ⊢
 clear hTX
 go_enter Tryz.func25,Tryz.ntmps25
 go_upto_region 1 with (fail)
 rw [← HG.out]
 clear hw0
 refine wp_region_noPanic ?_
 refine wp_region_held_drew (S:=fun wp=>wp.cell? ⟨g,0,none⟩=some (.int .i64 q)∧wp.cell? ⟨g,1,none⟩=some (.int .i64 k)∧wp.cell? ⟨g,2,none⟩=some (.int .i64 h)∧wp.cell? ⟨g,3,none⟩=some (.int .i64 t)∧wp.cell? ⟨g,4,none⟩=some (.int .i64 n)∧wp.cell? ⟨g,5,none⟩=some (.string x)∧(Instr.loadAt 51 (.pointer (some ⟨g,6,none⟩))).run Tryz.prog wp=.ok (.agg ZH) wp) (by kernel_rfl) ?_ (fun hHeld=>?_)
 · exact HK.out _ ud0
 refine tkY 0 hHeld ?_
 refine tkY 1 hHeld ?_
 refine tkY 3 hHeld ?_
 refine tkY 4 hHeld ?_
 refine tkY 6 hHeld ?_
 refine tkY 7 hHeld ?_
 refine tkY 9 hHeld ?_
 refine tkY 10 hHeld ?_
 refine tkY 12 hHeld ?_
 refine tkY 13 hHeld ?_
 refine tkY 15 hHeld ?_
 refine tkL 16 hHeld ZH (fun w hSw=>hSw.2.2.2.2.2.2) ?_
 refine tkY 18 hHeld ?_
 refine tkY 19 hHeld ?_
 refine tk1 2 fun K hK=>?_
 go_simp;refine (paD q _ HI.out.1 (htab.upd (HU0.out.trans ud0))).mono ?_;rintro e1 wv1 ⟨y1,HY1,hy1,rfl,hq⟩;have ud1:=ud0.trans hq;clear hq;go_wp2_with fail
 refine tkK hK (HK.out _ ud1) fun hHeld=>?_
 clear hK K
 refine tk1 5 fun K hK=>?_
 go_simp;refine (paD k _ HI.out.2.1 (htab.upd (HU0.out.trans ud1))).mono ?_;rintro e2 wv2 ⟨y2,HY2,hy2,rfl,hq⟩;have ud2:=ud1.trans hq;clear hq;go_wp2_with fail
 refine tkK hK (HK.out _ ud2) fun hHeld=>?_
 clear hK K
 refine tk1 8 fun K hK=>?_
 go_simp;refine (paD h _ HI.out.2.2.1 (htab.upd (HU0.out.trans ud2))).mono ?_;rintro e3 wv3 ⟨y3,HY3,hy3,rfl,hq⟩;have ud3:=ud2.trans hq;clear hq;go_wp2_with fail
 refine tkK hK (HK.out _ ud3) fun hHeld=>?_
 clear hK K
 refine tk1 11 fun K hK=>?_
 go_simp;refine (paD t _ HI.out.2.2.2.1 (htab.upd (HU0.out.trans ud3))).mono ?_;rintro e4 wv4 ⟨y4,HY4,hy4,rfl,hq⟩;have ud4:=ud3.trans hq;clear hq;go_wp2_with fail
 refine tkK hK (HK.out _ ud4) fun hHeld=>?_
 clear hK K
 refine tk1 14 fun K hK=>?_
 go_simp;refine (paD n _ HI.out.2.2.2.2 (htab.upd (HU0.out.trans ud4))).mono ?_;rintro e5 wv5 ⟨y5,HY5,hy5,rfl,hq⟩;have ud5:=ud4.trans hq;clear hq;go_wp2_with fail
 refine tkK hK (HK.out _ ud5) fun hHeld=>?_
 clear hK K
 refine tk1 17 fun K hK=>?_
 go_simp;rw [HZH.out];refine (pi2 p HP.out.1 _).mono ?_;rintro e6 wv6 ⟨y6,HY6,hy6,rfl,hq⟩;have ud6:=ud5.trans hq;clear hq;go_wp2_with fail
 refine tkK hK (HK.out _ ud6) fun hHeld=>?_
 clear hK K
 refine tk1 20 fun K hK=>?_
 go_simp;refine (pqZ x _ HP.out.2 (htab.upd (HU0.out.trans ud6))).mono ?_;rintro e7 wv7 ⟨y7,HY7,hy7,rfl,hq⟩;have ud7:=ud6.trans hq;clear hq;go_wp2_with fail
 refine tkK hK (HK.out _ ud7) fun hHeld=>?_
 clear hK K
 refine tk1 21 fun K hK=>?_
 go_simp
 refine tkK hK (HK.out _ (ud7.alloc _)) fun hHeld=>?_
 clear hK K
 refine tkY 22 hHeld ?_
 refine wpAnyH_done (by kernel_rfl) ?_ _
 refine NoPanic.normal ?_
 go_wp2_with fail
 have hXS:=pd3 wv7 [⟨#[101,118,101,110,116]⟩,y1,y2,y3,y4,y5,y6,y7] 9
 have hjoin:Lib.join ([⟨#[101,118,101,110,116]⟩,y1,y2,y3,y4,y5,y6,(y7:ByteArray)].map bs) [32]=TX:=by
  rw [← HJ2.out,← HY1.out,← HY2.out,← HY3.out,← HY4.out,← HY5.out,← HY6.out,← HY7.out]
  rfl
 have hj:=Tryz.strings_Join wv7.heap.size 0 8 [⟨#[101,118,101,110,116]⟩,y1,y2,y3,y4,y5,y6,y7] ⟨#[32]⟩ _ hXS.2 hXS.1 (by simp) (by simp) (by
  show (Lib.join (_) [32]).length≤_
  have e:=congrArg List.length hjoin
  have:=HL2.out
  exact Nat.le_trans (Nat.le_of_eq e) (by omega))
 refine hj.mono ?_
 rintro e9 w9 ⟨rfl,hb⟩
 have hu:=paA hb
 obtain ⟨T,hT⟩:∃ T:ByteArray,T=⟨(Lib.join ([⟨#[101,118,101,110,116]⟩,y1,y2,y3,y4,y5,y6,(y7:ByteArray)].map (·.data.toList)) (⟨#[32]⟩:ByteArray).data.toList).toArray⟩:=⟨_,rfl⟩
 rw [← hT]
 have HB:Hid (bs T=TX):=by
  show _=_
  rw [hT,pc8]
  exact hjoin
 have HU:=Lib.hid ((HU0.out.trans (ud7.alloc _)).trans hu)
 clear hj hXS hjoin hb hu hT
 go_wp2_with fail
 go_ret
 exact ⟨T,HB,by rw [← HB.out,pac];exact Nat.le_refl _,rfl,HU.out⟩
theorem EvG.info {e:EvG} (h:e.p.length=32):(Tryz.prog.info? 53).map (·.size)=some e.V.toArray.size:=by
 rw [show e.V.toArray.size=40 from EvG.V_len h]
 kernel_rfl
theorem EvG.one (e:EvG):e.V.toArray.all (·.oneCell')=true:=by
 rw [Array.all_eq_true_iff_forall_mem]
 intro v hv
 exact e.V_one v (by simpa using hv)
theorem EvG.code_is (e:EvG) {a b y:ByteArray} (ha:bs a=Lib.itoa e.r) (hb:bs b=Lib.itoa e.s) (hy:bs y=e.text):bs (a ++ ByteArray.mk #[32] ++ b ++ ByteArray.mk #[32] ++ y)=e.code:=by
 rw [pae,pae,pae,pae,ha,hb,hy,EvG.code]
 simp [bs]
set_option maxHeartbeats 4000000 in
theorem poG (ev:EvG) (he:ev.ok) (hx:ev.x.size≤1000000000) (w:World) (htab:Tabs w):Calls Tryz.prog 223 #[.agg ev.V.toArray] w (MkS ev.code w):=by
 obtain ⟨EV,hEV⟩:∃ EV,EV=ev.V.toArray:=⟨_,rfl⟩
 have HEV:=Lib.hid hEV
 obtain ⟨w0,hw0⟩:∃ w0,w.alloc (.cells EV 53)=w0:=⟨_,rfl⟩
 obtain ⟨g,hg⟩:∃ g,g=w.heap.size:=⟨_,rfl⟩
 have r0:EgA w0 g ev:=by rw [hg,← hw0,hEV];exact heap_alloc_new _ _
 have u0:Upd [] [] w w0:=by rw [← hw0];exact (Upd.refl _ _).alloc _
 have hp:=he.2.2.2.2.2.1
 obtain ⟨r,hr0⟩:∃ r,ev.r=r:=⟨_,rfl⟩
 obtain ⟨s,hs0⟩:∃ s,ev.s=s:=⟨_,rfl⟩
 have HK:Hid (∀ W,Upd [] [] w0 W→W.cell? ⟨g,38,none⟩=some (.int .i64 r)∧W.cell? ⟨g,39,none⟩=some (.int .i64 s)∧(Instr.loadAt 53 (.pointer (some ⟨g,0,none⟩))).run Tryz.prog W=.ok (.agg EV) W):=by
  intro W u
  rw [← hr0,← hs0]
  exact ⟨((r0.upd u).cell 38).trans (EvG.at38 hp),((r0.upd u).cell 39).trans (EvG.at39 hp),EvG.load hp hEV (r0.upd u)⟩
 have HI:Hid (pab r∧pab s):=by rw [← hr0,← hs0];exact he.2.2.2.2.2.2
 have HT:=Lib.hid (fun W (u:Upd [] [] w W)=>pni ev he hx W (htab.upd u))
 have HTL:=Lib.hid (EvG.text_len he hx)
 have HC:Hid (∀ a b y:ByteArray,bs a=Lib.itoa r→bs b=Lib.itoa s→bs y=ev.text→bs (a ++ ByteArray.mk #[32] ++ b ++ ByteArray.mk #[32] ++ y)=ev.code):=by
  rw [← hr0,← hs0]
  exact fun a b y ha hb hy=>ev.code_is ha hb hy
 have HX:=Lib.hid hx
 have HU0:=Lib.hid u0
 have ud0:Upd [] [] w0 w0.drew:=(Upd.refl _ _).drew
 have HG:=Lib.hid hg
 rw [← hEV]
 clear hEV r0 u0 hg he hx hp hr0 hs0
 go_enter Tryz.func223,Tryz.ntmps223
 go_upto_region 1 with (fail)
 rw [← HG.out]
 clear hw0
 refine wp_region_noPanic ?_
 refine wp_region_held_drew (S:=fun wp=>wp.cell? ⟨g,38,none⟩=some (.int .i64 r)∧wp.cell? ⟨g,39,none⟩=some (.int .i64 s)∧(Instr.loadAt 53 (.pointer (some ⟨g,0,none⟩))).run Tryz.prog wp=.ok (.agg EV) wp) (by kernel_rfl) ?_ (fun hHeld=>?_)
 · exact HK.out _ ud0
 refine tkY 0 hHeld ?_
 refine tkY 1 hHeld ?_
 refine tkY 2 hHeld ?_
 refine tkY 5 hHeld ?_
 refine tkY 6 hHeld ?_
 refine tkY 7 hHeld ?_
 refine tkL 11 hHeld EV (fun w hSw=>hSw.2.2) ?_
 refine tk1 3 fun K hK=>?_
 go_simp;refine (paD r _ HI.out.1 (htab.upd (HU0.out.trans ud0))).mono ?_;rintro e1 wv1 ⟨y1,HY1,hy1,rfl,hq⟩;have ud1:=ud0.trans hq;clear hq;have hz1:y1.size≤20:=(by have:=itoa_len r HI.out.1;omega);have fa1:¬ 9223372036854775807<y1.size+1:=(by omega);go_wp2_with fail
 refine tkK hK (HK.out _ ud1) fun hHeld=>?_
 clear hK K
 refine tkY 4 hHeld ?_
 refine tk1 8 fun K hK=>?_
 go_simp;refine (paD s _ HI.out.2 (htab.upd (HU0.out.trans ud1))).mono ?_;rintro e2 wv2 ⟨y2,HY2,hy2,rfl,hq⟩;have ud2:=ud1.trans hq;clear hq;have hz2:y2.size≤20:=(by have:=itoa_len s HI.out.2;omega);have fa2:¬ 9223372036854775807<y1.size+1+y2.size:=(by omega);have fa3:¬ 9223372036854775807<y1.size+1+y2.size+1:=(by omega);go_wp2_with fail
 refine tkK hK (HK.out _ ud2) fun hHeld=>?_
 clear hK K
 refine tkY 9 hHeld ?_
 refine tkY 10 hHeld ?_
 refine tk1 12 fun K hK=>?_
 go_simp;rw [HEV.out];refine (HT.out _ (HU0.out.trans ud2)).mono ?_;rintro e3 wv3 ⟨y3,HY3,hy3,rfl,hq⟩;have ud3:=ud2.trans hq;clear hq;have hz3:y3.size≤1000000250:=(by have:=HTL.out;have:=HX.out;omega);have fa4:¬ 9223372036854775807<y1.size+1+y2.size+1+y3.size:=(by omega);go_wp2_with fail
 refine tkK hK (HK.out _ ud3) fun hHeld=>?_
 clear hK K
 refine tkY 13 hHeld ?_
 refine tkY 14 hHeld ?_
 refine wpAnyH_done (by kernel_rfl) ?_ _
 refine NoPanic.normal ?_
 go_wp2_with fail
 go_ret
 have hb:=HC.out y1 y2 y3 HY1.out HY2.out HY3.out
 exact ⟨_,hb,by rw [← hb,pac];exact Nat.le_refl _,rfl,HU0.out.trans ud3⟩
theorem plf (t:ByteArray) (w:World) (ht:t.size≤10000000):Calls Tryz.prog 125 #[.string t] w (MkS (pa4 (bs t)) w):=by
 have hi:pab (t.size:Int):=by unfold pab;omega
 go_enter Tryz.func125,Tryz.ntmps125
 go_wp2_with fail
 refine (paL (t.size:Int) w hi).mono ?_
 rintro e w1 ⟨y,HY,hy,rfl,hq⟩
 have hl:=itoa_len (t.size:Int) hi
 have hz:y.size≤20:=by omega
 have H:bs (y ++ ByteArray.mk #[58] ++ t)=pa4 (bs t):=by
  rw [pae,pae,HY.out,pa4,pac,show bs (ByteArray.mk #[58])=[58] from rfl]
  simp only [List.append_assoc,List.cons_append,List.nil_append]
 have HH:=Lib.hid H
 clear H hy hl
 go_wp2_with fail
 go_ret
 exact ⟨_,HH.out,Nat.le_of_eq (paT HH.out),rfl,hq⟩
theorem pnj {t:List UInt8} (h:t.length≤10000000):(pa4 t).length≤t.length+21:=by
 have:=itoa_len (t.length:Int) (by unfold pab;omega)
 rw [pa4,List.length_append,List.length_cons]
 omega
theorem pp5 {q k h t n:Int} {p:List UInt8} {x:ByteArray} {y1 y2 y3 y4 y5 y6 y7:ByteArray} {TX:List UInt8} (hJ:Lib.join [wEv,Lib.itoa q,Lib.itoa k,Lib.itoa h,Lib.itoa t,Lib.itoa n,hexL p,pa4 (bs x)] [32]=TX)
 (h1:bs y1=Lib.itoa q) (h2:bs y2=Lib.itoa k) (h3:bs y3=Lib.itoa h) (h4:bs y4=Lib.itoa t) (h5:bs y5=Lib.itoa n) (h6:bs y6=hexL p) (h7:bs y7=pa4 (bs x)) :
 bs (ByteArray.mk #[101,118,101,110,116] ++ ByteArray.mk #[32] ++ y1 ++ ByteArray.mk #[32] ++ y2 ++ ByteArray.mk #[32] ++ y3 ++ ByteArray.mk #[32] ++ y4 ++ ByteArray.mk #[32] ++ y5 ++ ByteArray.mk #[32] ++ y6 ++ ByteArray.mk #[32] ++ y7)=TX:=by
 rw [← hJ]
 simp only [pae,h1,h2,h3,h4,h5,h6,h7,show bs (ByteArray.mk #[32])=[32] from rfl,show bs (ByteArray.mk #[101,118,101,110,116])=wEv from rfl]
 simp [Lib.join,List.intercalate_cons_cons]
set_option maxHeartbeats 8000000 in
theorem plg (e:EvG) (he:e.ok) (hx:e.x.size≤10000000) (w:World):Calls Tryz.prog 64 #[.agg e.V.toArray] w (MkS e.text w):=by
 obtain ⟨EV,hEV⟩:∃ EV,EV=e.V.toArray:=⟨_,rfl⟩
 obtain ⟨ZH,hZH⟩:∃ ZH,ZH=(byteVals e.p).toArray:=⟨_,rfl⟩
 have HZH:=Lib.hid hZH
 obtain ⟨w0,hw0⟩:∃ w0,w.alloc (.cells EV 53)=w0:=⟨_,rfl⟩
 obtain ⟨g,hg⟩:∃ g,g=w.heap.size:=⟨_,rfl⟩
 have r0:EgA w0 g e:=by rw [hg,← hw0,hEV];exact heap_alloc_new _ _
 have u0:Upd [] [] w w0:=by rw [← hw0];exact (Upd.refl _ _).alloc _
 have HJ:=Lib.hid e.text_join
 have HL:=Lib.hid (EvG.text_len he (by omega))
 have HOK:=Lib.hid he
 obtain ⟨q,hq0⟩:∃ q,e.q=q:=⟨_,rfl⟩
 obtain ⟨k,hk0⟩:∃ k,e.k=k:=⟨_,rfl⟩
 obtain ⟨h,hh0⟩:∃ h,e.h=h:=⟨_,rfl⟩
 obtain ⟨t,ht0⟩:∃ t,e.t=t:=⟨_,rfl⟩
 obtain ⟨n,hn0⟩:∃ n,e.n=n:=⟨_,rfl⟩
 obtain ⟨x,hx0⟩:∃ x,e.x=x:=⟨_,rfl⟩
 obtain ⟨p,hp0⟩:∃ p,e.p=p:=⟨_,rfl⟩
 have HK:Hid (∀ W,Upd [] [] w0 W→W.cell? ⟨g,0,none⟩=some (.int .i64 q)∧W.cell? ⟨g,1,none⟩=some (.int .i64 k)∧W.cell? ⟨g,2,none⟩=some (.int .i64 h)∧W.cell? ⟨g,3,none⟩=some (.int .i64 t)∧W.cell? ⟨g,4,none⟩=some (.int .i64 n)∧W.cell? ⟨g,5,none⟩=some (.string x)∧(Instr.loadAt 51 (.pointer (some ⟨g,6,none⟩))).run Tryz.prog W=.ok (.agg ZH) W):=by
  intro W u
  have c:=(r0.upd u)
  refine ⟨(c.cell 0).trans ?_,(c.cell 1).trans ?_,(c.cell 2).trans ?_,(c.cell 3).trans ?_,(c.cell 4).trans ?_,(c.cell 5).trans ?_,?_⟩
  · rw [← hq0];rfl
  · rw [← hk0];rfl
  · rw [← hh0];rfl
  · rw [← ht0];rfl
  · rw [← hn0];rfl
  · rw [← hx0];rfl
  · rw [hZH];exact run_loadAt_mid W g 6 51 _ _ c.hash Tryz.underlying51 rfl (phY he.2.2.2.2.2.1)
 have HI:Hid (pab q∧pab k∧pab h∧pab t∧pab n):=by rw [← hq0,← hk0,← hh0,← ht0,← hn0];exact ⟨he.1,he.2.1,he.2.2.1,he.2.2.2.1,he.2.2.2.2.1⟩
 have HP:Hid (p.length=32∧x.size≤10000000):=by rw [← hp0,← hx0];exact ⟨he.2.2.2.2.2.1,hx⟩
 rw [hp0] at HZH
 have HJ2:Hid (Lib.join [wEv,Lib.itoa q,Lib.itoa k,Lib.itoa h,Lib.itoa t,Lib.itoa n,hexL p,pa4 (bs x)] [32]=e.text):=by
  rw [← hq0,← hk0,← hh0,← ht0,← hn0,← hx0,← hp0]
  exact HJ.out
 have HL2:Hid (e.text.length≤1000000250):=Nat.le_trans HL.out (by omega)
 have HU0:=Lib.hid u0
 have ud0:Upd [] [] w0 w0.drew:=(Upd.refl _ _).drew
 have HG:=Lib.hid hg
 rw [← hEV]
 clear hEV hZH r0 u0 hg he hx HJ HL HOK hq0 hk0 hh0 ht0 hn0 hx0 hp0
 obtain ⟨TX,hTX⟩:∃ l,e.text=l:=⟨_,rfl⟩
 rw [hTX] at HJ2 HL2 ⊢
 clear hTX
 go_enter Tryz.func64,Tryz.ntmps64
 go_upto_region 1 with (fail)
 rw [← HG.out]
 clear hw0
 obtain ⟨c0,c1,c2,c3,c4,c5,c6⟩:=HK.out w0 (Upd.refl _ _)
 obtain ⟨gL,hgL⟩:∃ z,w0.heap.size=z:=⟨_,rfl⟩
 obtain ⟨w1,hw1⟩:∃ W,w0.alloc (.cells #[.int .i64 q,.int .i64 k,.int .i64 h,.int .i64 t,.int .i64 n] 3)=W:=⟨_,rfl⟩
 have RL:=Lib.hid (show w1.heap[gL]? =some (.cells #[.int .i64 q,.int .i64 k,.int .i64 h,.int .i64 t,.int .i64 n] 3 (0,0)) by rw [← hgL,← hw1];exact heap_alloc_new _ _)
 have HL5:Hid (∀ W,Upd [] [] w1 W→W.cell? ⟨gL,0,none⟩=some (.int .i64 q)∧W.cell? ⟨gL,1,none⟩=some (.int .i64 k)∧W.cell? ⟨gL,2,none⟩=some (.int .i64 h)∧W.cell? ⟨gL,3,none⟩=some (.int .i64 t)∧W.cell? ⟨gL,4,none⟩=some (.int .i64 n)):=by
  intro W u
  have r:=pc1 RL.out u
  exact ⟨cell_of_row _ gL 0 _ _ _ r,cell_of_row _ gL 1 _ _ _ r,cell_of_row _ gL 2 _ _ _ r,cell_of_row _ gL 3 _ _ _ r,cell_of_row _ gL 4 _ _ _ r⟩
 have U1:=Lib.hid (show Upd [] [] w0 w1 by rw [← hw1];exact (Upd.refl _ _).alloc _)
 have v0:Hid (Upd [] [] w1 w1):=Upd.refl _ _
 clear ud0
 go_wp2_with fail
 clear hw1 hgL c0 c1 c2 c3 c4 c5 c6 RL
 refine wp_loop_rounds 6 ?_
 have z0:(0:Int)=0:=rfl
 rw [rounds_succ]
 have d1:=(HL5.out w1 v0.out).1
 go_wp2_with fail
 refine (paL q _ HI.out.1).mono ?_
 rintro e wv1 ⟨y1,HY1,hy,rfl,hq⟩
 have hz1:y1.size≤20:=by
  have:=itoa_len q HI.out.1
  omega
 have v1:=Lib.hid (v0.out.trans hq)
 clear hy hq d1
 go_wp2_with fail
 rw [rounds_succ]
 have d2:=(HL5.out wv1 v1.out).2.1
 go_wp2_with fail
 refine (paL k _ HI.out.2.1).mono ?_
 rintro e wv2 ⟨y2,HY2,hy,rfl,hq⟩
 have hz2:y2.size≤20:=by
  have:=itoa_len k HI.out.2.1
  omega
 have v2:=Lib.hid (v1.out.trans hq)
 clear hy hq d2
 go_wp2_with fail
 rw [rounds_succ]
 have d3:=(HL5.out wv2 v2.out).2.2.1
 go_wp2_with fail
 refine (paL h _ HI.out.2.2.1).mono ?_
 rintro e wv3 ⟨y3,HY3,hy,rfl,hq⟩
 have hz3:y3.size≤20:=by
  have:=itoa_len h HI.out.2.2.1
  omega
 have v3:=Lib.hid (v2.out.trans hq)
 clear hy hq d3
 go_wp2_with fail
 rw [rounds_succ]
 have d4:=(HL5.out wv3 v3.out).2.2.2.1
 go_wp2_with fail
 refine (paL t _ HI.out.2.2.2.1).mono ?_
 rintro e wv4 ⟨y4,HY4,hy,rfl,hq⟩
 have hz4:y4.size≤20:=by
  have:=itoa_len t HI.out.2.2.2.1
  omega
 have v4:=Lib.hid (v3.out.trans hq)
 clear hy hq d4
 go_wp2_with fail
 rw [rounds_succ]
 have d5:=(HL5.out wv4 v4.out).2.2.2.2
 go_wp2_with fail
 refine (paL n _ HI.out.2.2.2.2).mono ?_
 rintro e wv5 ⟨y5,HY5,hy,rfl,hq⟩
 have hz5:y5.size≤20:=by
  have:=itoa_len n HI.out.2.2.2.2
  omega
 have v5:=Lib.hid (v4.out.trans hq)
 clear hy hq d5
 go_wp2_with fail
 have hp6:(hexL p).length=64:=by rw [pa6,HP.out.1]
 have hw7:(pa4 (bs x)).length≤10000021:=Nat.le_trans (pnj (by rw [pac];exact HP.out.2)) (by rw [pac];have:=HP.out.2;omega)
 have HP6:=Lib.hid hp6
 have HW7:=Lib.hid hw7
 have u5:=U1.out.trans v5.out
 clear hp6 hw7
 rw [rounds_succ]
 go_upto_region 7 with (fail)
 have ud0:Upd [] [] w0 wv5.drew:=u5.drew
 have fa1:¬ 9223372036854775807<6+y1.size+1+y2.size+1+y3.size+1+y4.size+1+y5.size+1:=by omega
 refine wp_region_noPanic ?_
 refine wp_region_held_drew (S:=fun wp=>wp.cell? ⟨g,5,none⟩=some (.string x)∧(Instr.loadAt 51 (.pointer (some ⟨g,6,none⟩))).run Tryz.prog wp=.ok (.agg ZH) wp) (by kernel_rfl) ?_ (fun hHeld=>?_)
 · exact (HK.out _ ud0).2.2.2.2.2
 refine tkY 0 hHeld ?_
 refine tkY 1 hHeld ?_
 refine tkY 2 hHeld ?_
 refine tkL 3 hHeld ZH (fun w hSw=>hSw.2) ?_
 refine tkY 7 hHeld ?_
 refine tkY 8 hHeld ?_
 refine tk1 4 fun K hK=>?_
 go_simp;rw [HZH.out];refine (phM p HP.out.1 _).mono ?_;rintro e6 wv6 ⟨y6,HY6,hy6,rfl,hq⟩;have ud6:=ud0.trans hq;clear hq;have hz6:y6.size≤64:=(by have:=HP6.out;omega);clear hy6;have fa2:¬ 9223372036854775807<6+y1.size+1+y2.size+1+y3.size+1+y4.size+1+y5.size+1+y6.size:=(by omega);have fa3:¬ 9223372036854775807<6+y1.size+1+y2.size+1+y3.size+1+y4.size+1+y5.size+1+y6.size+1:=(by omega);go_wp2_with fail
 refine tkK hK ((HK.out _ ud6).2.2.2.2.2) fun hHeld=>?_
 clear hK K
 refine tkY 5 hHeld ?_
 refine tkY 6 hHeld ?_
 refine tk1 9 fun K hK=>?_
 go_simp;refine (plf x _ HP.out.2).mono ?_;rintro e7 wv7 ⟨y7,HY7,hy7,rfl,hq⟩;have ud7:=ud6.trans hq;clear hq;have hz7:y7.size≤10000021:=(by have:=HW7.out;omega);clear hy7;have fa4:¬ 9223372036854775807<6+y1.size+1+y2.size+1+y3.size+1+y4.size+1+y5.size+1+y6.size+1+y7.size:=(by omega);go_wp2_with fail
 refine tkK hK ((HK.out _ ud7).2.2.2.2.2) fun hHeld=>?_
 clear hK K
 refine tkY 10 hHeld ?_
 refine tkY 11 hHeld ?_
 refine wpAnyH_done (by kernel_rfl) ?_ _
 refine NoPanic.normal ?_
 go_wp2_with fail
 go_ret
 have hb:=pp5 HJ2.out HY1.out HY2.out HY3.out HY4.out HY5.out HY6.out HY7.out
 exact ⟨_,hb,Nat.le_of_eq (paT hb),rfl,HU0.out.trans ud7⟩
theorem phZ (sep:ByteArray):∀ (k:Nat) (s:ByteArray),(Lib.splitB sep 0 k s).length≤k+1
 | 0,_=>by simp [Lib.splitB]
 | k+1,s=>by
  unfold Lib.splitB
  split
  · simp
  · rw [List.length_cons]
    have:=phZ sep k (s.extract ((Lib.indexB s sep).toNat+sep.size) s.size)
    omega
theorem pdu (sep:ByteArray):∀ (k:Nat) (s p:ByteArray),p∈Lib.splitB sep 0 k s→p.size≤s.size
 | 0,s,p,h=>by
  simp only [Lib.splitB,List.mem_singleton] at h
  rw [h]
  exact Nat.le_refl _
 | k+1,s,p,h=>by
  unfold Lib.splitB at h
  split at h
  · simp only [List.mem_singleton] at h
    rw [h]
    exact Nat.le_refl _
  · rcases List.mem_cons.1 h with h | h
    · rw [h,ByteArray.size_extract]
      omega
    · have:=pdu sep k _ p h
      rw [ByteArray.size_extract] at this
      omega
theorem plh {s:ByteArray} {ev:EvG} (h:pan (bs s) ev):(Lib.splitB ⟨#[32]⟩ 0 (min 10 (s.size+1) - 1) s).map bs=ev.parts:=by
 have hl:=ev.code_len
 rw [← h.2,pac] at hl
 have hk:min 10 (s.size+1) - 1=9:=by omega
 have e:Lib.splitK (bs ⟨#[32]⟩) 0 9 (bs s)=ev.parts:=by rw [h.2];exact ev.code_split
 rw [hk,pm8 e,List.map_map]
 conv=>rhs;rw [← List.map_id ev.parts]
 exact List.map_congr_left fun x _=>rfl
def prz (s:ByteArray) (W:World) (e:Ending) (w':World):Prop :=
 ∃ (P:List ByteArray) (cap:Nat),Hid ((∀ ev,pan (bs s) ev→P.map bs=ev.parts)∧(∀ p∈P,p.size≤s.size))∧P.length≤cap∧cap≤10∧e=.returned (.slice (some ⟨W.heap.size,0,none⟩) P.length cap)∧w'=W.alloc (.cells (Lib.cellsOf P cap) 9)
theorem poH (s:ByteArray) (hs:s.size≤4000000000) (W:World) (htab:Tabs W):Calls Tryz.prog 219 #[.string s,.string ⟨#[32]⟩,.int .i64 10] W (prz s W):=by
 obtain ⟨m,hm⟩:=htab.m
 refine (Tryz.strings_SplitN s ⟨#[32]⟩ 10 m W (by omega) hm (by decide) (by omega) (by omega)).mono ?_
 rintro e w' ⟨rfl,rfl⟩
 refine ⟨Lib.splitB ⟨#[32]⟩ 0 (min 10 (s.size+1) - 1) s,min 10 (s.size+1),⟨fun ev h=>plh h,fun p hp=>pdu _ _ _ _ hp⟩,?_,by omega,rfl,rfl⟩
 have:=phZ ⟨#[32]⟩ (min 10 (s.size+1) - 1) s
 omega
theorem pq1 {P:List ByteArray} (h:P.length=10):∃ a b c d e f g i j k,P=[a,b,c,d,e,f,g,i,j,k]:=by
 match P,h with
 | [a,b,c,d,e,f,g,i,j,k],_=>exact ⟨a,b,c,d,e,f,g,i,j,k,rfl⟩
theorem pcE (w:World) (g2:Nat) (ZE:Array Value) (W:World) (hz:w.heap.size≤g2) (hg:W.heap[g2]? =some (.cells evZ.toArray 53 (0,0))) (u:Upd [] [] w W) :
 ∃ X,Hid (W.setRow g2 ZE=X)∧Hid (X.heap[g2]? =some (.cells ZE 53 (0,0)))∧Hid (Upd [] [] w X) :=
 ⟨_,rfl,setRow_heap _ _ _ _ _ _ hg,u.setRowNew hz ZE⟩
theorem pnk {e f:EvG} (h1:Lib.itoa e.r=Lib.itoa f.r) (h2:Lib.itoa e.s=Lib.itoa f.s) (h3:Lib.itoa e.q=Lib.itoa f.q) (h4:Lib.itoa e.k=Lib.itoa f.k) (h5:Lib.itoa e.h=Lib.itoa f.h) (h6:Lib.itoa e.t=Lib.itoa f.t) (h7:Lib.itoa e.n=Lib.itoa f.n) (h8:hexL e.p=hexL f.p) (h9:pa4 (bs e.x)=pa4 (bs f.x)):e.code=f.code:=by
 unfold EvG.code EvG.text
 rw [h1,h2,h3,h4,h5,h6,h7,h8,h9]
theorem ph0:Tryz.prog.built 53 []=some evZ.toArray:=by kernel_rfl
theorem pfp:(Tryz.prog.info? 53).map (·.size)=some evZ.toArray.size:=by
 rw [pce]
 kernel_rfl
theorem pge:evZ.toArray.all (·.oneCell')=true:=by kernel_rfl
end Go.Proofs.YtheobkejohifaaaGreatDoor
