/- sortesref01.Parse at any text and what follows. -/
import Derived.Test.YtmjlkkbbnkanpaaGreatDoorHAP
import Derived.Test.YtmjlkkbbnkanpaaGreatDoorHAN
import Derived.Test.YtmjlkkbbnkanpaaGreatDoorHAA
import Derived.Test.YtmjlkkbbnkanpaaGreatDoorHAO
import Derived.Test.YtmjlkkbbnkanpaaGreatDoorHAD
import Derived.Test.YtmjlkkbbnkanpaaGreatDoorHAK
namespace Go.Proofs.YtmjlkkbbnkanpaaGreatDoor
open Go.RowKit
set_option maxRecDepth 100000
theorem be_short8 {u:Nat} (h:u≤9223372036854775808):(be u).length≤8:=be_len_le 8 u (Nat.lt_of_le_of_lt h (by decide))
theorem itoaNeg {n:Int} (h:n<0):Lib.itoa n=[45] ++ Lib.decDigits n.natAbs:=by
 unfold Lib.itoa
 rw [if_pos h]
 rfl
theorem itoaNat (u:Nat):Lib.itoa (u:Int)=Lib.decDigits u:=by
 unfold Lib.itoa
 rw [if_neg (by omega),Int.toNat_natCast]
theorem text_ofD (u:Nat) (w:World) (a:ByteArray) (ha:bs a=be u) (h:u≤9223372036854775808):Calls Tryz.prog 61 #[.string a] w (MkS (Lib.decDigits u) w) :=
 text_big a u w (by rw [ha,natB_be]) (by rw [size_of_be ha];exact Nat.le_trans (be_short8 h) (by omega)) (Nat.le_trans (dec_le19 h) (by omega))
set_option maxHeartbeats 1000000 in
theorem decimal11_any (n:Int) (w:World) (hn:i64in n):Calls Tryz.prog 18 #[.int .i64 n] w (MkS (Lib.itoa n) w):=by
 have hn1:=hn.1
 have hn2:=hn.2
 by_cases h0:0≤n
 · obtain ⟨u,rfl⟩:=Int.eq_ofNat_of_zero_le h0
   go_enter Tryz.func18,Tryz.ntmps18
   go_wp2_with fail
   refine (of_int u w (by omega)).mono ?_
   rintro e w1 ⟨a,HA,rfl,hu1⟩
   go_wp2_with fail
   refine (text_ofD u w1 a HA.out (by omega)).mono ?_
   rintro e w2 ⟨y,HY,hy,rfl,hu2⟩
   go_wp2_with fail
   go_ret
   rw [itoaNat]
   exact ⟨y,HY.out,hy,rfl,hu1.trans hu2⟩
 · obtain ⟨m,hm⟩:∃ m:Nat,(m:Int)=-(n+1):=⟨(-(n+1)).toNat,by omega⟩
   have hml:m<9223372036854775808:=by omega
   have hnm:n.natAbs=m+1:=by omega
   have HN:=Lib.hid hnm
   have hlt:n<0:=by omega
   have w1:IntKind.i64.wrap (n+1)=n+1:=wrap_in (by omega) (by omega)
   have w2:IntKind.i64.wrap (-(n+1))=(m:Int):=by rw [wrap_in (by omega) (by omega)];omega
   have b1:n+1≤9223372036854775807:=by omega
   clear hnm
   go_enter Tryz.func18,Tryz.ntmps18
   go_wp2_with fail
   first | rw [← hm] | skip
   refine (of_int m w hml).mono ?_
   rintro e w3 ⟨a,HA,rfl,hu1⟩
   go_wp2_with fail
   refine (of_int 1 w3 (by omega)).mono ?_
   rintro e w4 ⟨b,HB,rfl,hu2⟩
   go_wp2_with fail
   refine (bigAdd_any a b m 1 w4 HA.out HB.out (Nat.le_trans (be_short8 (by omega)) (by omega)) (Nat.le_trans (be_short8 (by omega)) (by omega))).mono ?_
   rintro e w5 ⟨c,HC,rfl,hu3⟩
   go_wp2_with fail
   refine (text_ofD (m+1) w5 c HC.out (by omega)).mono ?_
   rintro e w6 ⟨y,HY,hy,rfl,hu4⟩
   have hl:(Lib.decDigits (m+1)).length≤19:=dec_le19 (by omega)
   have hy2:y.size≤19:=Nat.le_trans hy hl
   clear hl hy
   go_wp2_with fail
   go_ret
   refine ⟨_,?_,?_,rfl,(hu1.trans hu2).trans (hu3.trans hu4)⟩
   · show _=_
     rw [itoaNeg hlt,HN.out,bs_append,HY.out]
     rfl
   · rw [itoaNeg hlt,HN.out,← HY.out,List.length_append,bs_length,ByteArray.size_append]
     exact Nat.le_refl _
def EvA (w:World) (g:Nat) (c:UInt8) (r s:Int):Prop:=w.heap[g]? =some (.cells (evV c r s).toArray 66 (0,0))
theorem EvA.upd {w w':World} {g:Nat} {c:UInt8} {r s:Int} (h:EvA w g c r s) (u:Upd [] [] w w'):EvA w' g c r s:=row_updH h u
theorem EvA.cell {w:World} {g:Nat} {c:UInt8} {r s:Int} (h:EvA w g c r s) (j:Nat):w.cell? ⟨g,j,none⟩=(evV c r s)[j]?:=by
 rw [cell_of_row w g j _ _ _ h,List.getElem?_toArray]
theorem ev_at38 (c:UInt8) (r s:Int):(evV c r s)[38]? =some (.int .i64 r):=by
 unfold evV
 rw [List.getElem?_append_right (by simp),List.getElem?_append_right (by simp [byteVals,zero32])]
 simp [byteVals,zero32]
theorem ev_at39 (c:UInt8) (r s:Int):(evV c r s)[39]? =some (.int .i64 s):=by
 unfold evV
 rw [List.getElem?_append_right (by simp),List.getElem?_append_right (by simp [byteVals,zero32])]
 simp [byteVals,zero32]
def evS (g:Nat) (c:UInt8) (ZH:Array Value) (w:World):Prop:=w.cell? ⟨g,0,none⟩=some (.int .i64 5)∧w.cell? ⟨g,1,none⟩=some (.int .i64 4)∧w.cell? ⟨g,2,none⟩=some (.int .i64 3)∧w.cell? ⟨g,3,none⟩=some (.int .i64 0)∧w.cell? ⟨g,4,none⟩=some (.int .i64 0)∧w.cell? ⟨g,5,none⟩=some (.string ⟨#[c]⟩)∧(Instr.loadAt 64 (.pointer (some ⟨g,6,none⟩))).run Tryz.prog w=.ok (.agg ZH) w
theorem evV_load {w:World} {g:Nat} {c:UInt8} {r s:Int} {E:Array Value} (hE:E=(evV c r s).toArray) (h:EvA w g c r s):(Instr.loadAt 66 (.pointer (some ⟨g,0,none⟩))).run Tryz.prog w=.ok (.agg E) w:=by
 subst hE
 refine run_loadAt_mid w g 0 66 _ _ (fun j v hv=>?_) Tryz.underlying66 rfl ?_
 · rw [h.cell,Nat.zero_add];exact hv
 · rw [evV_len];kernel_rfl
theorem itoa_is (n:Int) (t:ByteArray) (h:Lib.itoa n=bs t) (hn:i64in n) (w:World) (htab:Tabs w):Calls Tryz.prog 50 #[.int .i64 n] w (fun e w'=>e=.returned (.string t)∧Upd [] [] w w'):=by
 refine (itoa_any n w hn htab).mono ?_
 rintro e w' ⟨y,HY,_,rfl,hq⟩
 obtain rfl:y=t:=bs_inj (HY.out.trans h)
 exact ⟨rfl,hq⟩
def EgA (w:World) (g:Nat) (e:EvG):Prop:=w.heap[g]? =some (.cells e.V.toArray 66 (0,0))
theorem EgA.upd {w w':World} {g:Nat} {e:EvG} (h:EgA w g e) (u:Upd [] [] w w'):EgA w' g e:=row_updH h u
theorem EgA.cell {w:World} {g:Nat} {e:EvG} (h:EgA w g e) (j:Nat):w.cell? ⟨g,j,none⟩=e.V[j]?:=by
 rw [cell_of_row w g j _ _ _ h,List.getElem?_toArray]
theorem EvG.at38 {e:EvG} (h:e.p.length=32):e.V[38]? =some (.int .i64 e.r):=by
 unfold EvG.V
 rw [List.getElem?_append_right (by simp),List.getElem?_append_right (by simp [byteVals,h])]
 simp [byteVals,h]
theorem EvG.at39 {e:EvG} (h:e.p.length=32):e.V[39]? =some (.int .i64 e.s):=by
 unfold EvG.V
 rw [List.getElem?_append_right (by simp),List.getElem?_append_right (by simp [byteVals,h])]
 simp [byteVals,h]
theorem hashInfoG {p:List UInt8} (h:p.length=32):(Tryz.prog.info? 64).map (·.size)=some (byteVals p).length:=by
 rw [show (byteVals p).length=32 by simp [byteVals,h]]
 kernel_rfl
theorem EgA.hash {w:World} {g:Nat} {e:EvG} (h:EgA w g e):w.rangeAt g 6 (byteVals e.p):=by
 intro j v hv
 rw [h.cell]
 exact mid_get (A:=[.int .i64 e.q,.int .i64 e.k,.int .i64 e.h,.int .i64 e.t,.int .i64 e.n,.string e.x]) rfl hv
theorem EvG.load {w:World} {g:Nat} {e:EvG} {E:Array Value} (hp:e.p.length=32) (hE:E=e.V.toArray) (h:EgA w g e):(Instr.loadAt 66 (.pointer (some ⟨g,0,none⟩))).run Tryz.prog w=.ok (.agg E) w:=by
 subst hE
 refine run_loadAt_mid w g 0 66 _ _ (fun j v hv=>?_) Tryz.underlying66 rfl ?_
 · rw [h.cell,Nat.zero_add];exact hv
 · rw [EvG.V_len hp];kernel_rfl
set_option maxHeartbeats 4000000 in
theorem dTextG (e:EvG) (he:e.ok) (hx:e.x.size≤1000000000) (w:World) (htab:Tabs w):Calls Tryz.prog 47 #[.agg e.V.toArray] w (MkS e.text w):=by
 obtain ⟨EV,hEV⟩:∃ EV,EV=e.V.toArray:=⟨_,rfl⟩
 obtain ⟨ZH,hZH⟩:∃ ZH,ZH=(byteVals e.p).toArray:=⟨_,rfl⟩
 have HZH:=Lib.hid hZH
 obtain ⟨w0,hw0⟩:∃ w0,w.alloc (.cells EV 66)=w0:=⟨_,rfl⟩
 obtain ⟨g,hg⟩:∃ g,g=w.heap.size:=⟨_,rfl⟩
 have r0:EgA w0 g e:=by rw [hg,← hw0,hEV];exact heap_alloc_new _ _
 have u0:Upd [] [] w w0:=by rw [← hw0];exact (Upd.refl _ _).alloc _
 have HJ:=Lib.hid e.text_join
 have HL:=Lib.hid (EvG.text_len he hx)
 have HOK:=Lib.hid he
 obtain ⟨q,hq0⟩:∃ q,e.q=q:=⟨_,rfl⟩
 obtain ⟨k,hk0⟩:∃ k,e.k=k:=⟨_,rfl⟩
 obtain ⟨h,hh0⟩:∃ h,e.h=h:=⟨_,rfl⟩
 obtain ⟨t,ht0⟩:∃ t,e.t=t:=⟨_,rfl⟩
 obtain ⟨n,hn0⟩:∃ n,e.n=n:=⟨_,rfl⟩
 obtain ⟨x,hx0⟩:∃ x,e.x=x:=⟨_,rfl⟩
 obtain ⟨p,hp0⟩:∃ p,e.p=p:=⟨_,rfl⟩
 have HK:Hid (∀ W,Upd [] [] w0 W→W.cell? ⟨g,0,none⟩=some (.int .i64 q)∧W.cell? ⟨g,1,none⟩=some (.int .i64 k)∧W.cell? ⟨g,2,none⟩=some (.int .i64 h)∧W.cell? ⟨g,3,none⟩=some (.int .i64 t)∧W.cell? ⟨g,4,none⟩=some (.int .i64 n)∧W.cell? ⟨g,5,none⟩=some (.string x)∧(Instr.loadAt 64 (.pointer (some ⟨g,6,none⟩))).run Tryz.prog W=.ok (.agg ZH) W):=by
  intro W u
  have c:=(r0.upd u)
  refine ⟨(c.cell 0).trans ?_,(c.cell 1).trans ?_,(c.cell 2).trans ?_,(c.cell 3).trans ?_,(c.cell 4).trans ?_,(c.cell 5).trans ?_,?_⟩
  · rw [← hq0];rfl
  · rw [← hk0];rfl
  · rw [← hh0];rfl
  · rw [← ht0];rfl
  · rw [← hn0];rfl
  · rw [← hx0];rfl
  · rw [hZH];exact run_loadAt_mid W g 6 64 _ _ c.hash Tryz.underlying64 rfl (hashInfoG he.2.2.2.2.2.1)
 have HI:Hid (i64in q∧i64in k∧i64in h∧i64in t∧i64in n):=by rw [← hq0,← hk0,← hh0,← ht0,← hn0];exact ⟨he.1,he.2.1,he.2.2.1,he.2.2.2.1,he.2.2.2.2.1⟩
 have HP:Hid (p.length=32∧x.size≤1000000000):=by rw [← hp0,← hx0];exact ⟨he.2.2.2.2.2.1,hx⟩
 rw [hp0] at HZH
 have HJ2:Hid (Lib.join [wEv,Lib.itoa q,Lib.itoa k,Lib.itoa h,Lib.itoa t,Lib.itoa n,hexL p,wordG (bs x)] [32]=e.text):=by
  rw [← hq0,← hk0,← hh0,← ht0,← hn0,← hx0,← hp0]
  exact HJ.out
 have HL2:Hid (e.text.length≤1000000250):=Nat.le_trans HL.out (by omega)
 have HU0:=Lib.hid u0
 have ud0:Upd [] [] w0 w0.drew:=(Upd.refl _ _).drew
 have HG:=Lib.hid hg
 rw [← hEV]
 clear hEV hZH r0 u0 hg he hx HJ HL HOK hq0 hk0 hh0 ht0 hn0 hx0 hp0
 obtain ⟨TX,hTX⟩:∃ l,e.text=l:=⟨_,rfl⟩
 rw [hTX] at HJ2 HL2 ⊢
 clear hTX
 go_enter Tryz.func47,Tryz.ntmps47
 go_upto_region 1 with (fail)
 rw [← HG.out]
 clear hw0
 refine wp_region_noPanic ?_
 refine wp_region_held_drew (S:=fun wp=>wp.cell? ⟨g,0,none⟩=some (.int .i64 q)∧wp.cell? ⟨g,1,none⟩=some (.int .i64 k)∧wp.cell? ⟨g,2,none⟩=some (.int .i64 h)∧wp.cell? ⟨g,3,none⟩=some (.int .i64 t)∧wp.cell? ⟨g,4,none⟩=some (.int .i64 n)∧wp.cell? ⟨g,5,none⟩=some (.string x)∧(Instr.loadAt 64 (.pointer (some ⟨g,6,none⟩))).run Tryz.prog wp=.ok (.agg ZH) wp) (by kernel_rfl) ?_ (fun hHeld=>?_)
 · exact HK.out _ ud0
 refine tkY 0 hHeld ?_
 refine tkY 1 hHeld ?_
 refine tkY 3 hHeld ?_
 refine tkY 4 hHeld ?_
 refine tkY 6 hHeld ?_
 refine tkY 7 hHeld ?_
 refine tkY 9 hHeld ?_
 refine tkY 10 hHeld ?_
 refine tkY 12 hHeld ?_
 refine tkY 13 hHeld ?_
 refine tkY 15 hHeld ?_
 refine tkL 16 hHeld ZH (fun w hSw=>hSw.2.2.2.2.2.2) ?_
 refine tkY 18 hHeld ?_
 refine tkY 19 hHeld ?_
 refine tk1 2 fun K hK=>?_
 go_simp;refine (itoa_any q _ HI.out.1 (htab.upd (HU0.out.trans ud0))).mono ?_;rintro e1 wv1 ⟨y1,HY1,hy1,rfl,hq⟩;have ud1:=ud0.trans hq;clear hq;go_wp2_with fail
 refine tkK hK (HK.out _ ud1) fun hHeld=>?_
 clear hK K
 refine tk1 5 fun K hK=>?_
 go_simp;refine (itoa_any k _ HI.out.2.1 (htab.upd (HU0.out.trans ud1))).mono ?_;rintro e2 wv2 ⟨y2,HY2,hy2,rfl,hq⟩;have ud2:=ud1.trans hq;clear hq;go_wp2_with fail
 refine tkK hK (HK.out _ ud2) fun hHeld=>?_
 clear hK K
 refine tk1 8 fun K hK=>?_
 go_simp;refine (itoa_any h _ HI.out.2.2.1 (htab.upd (HU0.out.trans ud2))).mono ?_;rintro e3 wv3 ⟨y3,HY3,hy3,rfl,hq⟩;have ud3:=ud2.trans hq;clear hq;go_wp2_with fail
 refine tkK hK (HK.out _ ud3) fun hHeld=>?_
 clear hK K
 refine tk1 11 fun K hK=>?_
 go_simp;refine (itoa_any t _ HI.out.2.2.2.1 (htab.upd (HU0.out.trans ud3))).mono ?_;rintro e4 wv4 ⟨y4,HY4,hy4,rfl,hq⟩;have ud4:=ud3.trans hq;clear hq;go_wp2_with fail
 refine tkK hK (HK.out _ ud4) fun hHeld=>?_
 clear hK K
 refine tk1 14 fun K hK=>?_
 go_simp;refine (itoa_any n _ HI.out.2.2.2.2 (htab.upd (HU0.out.trans ud4))).mono ?_;rintro e5 wv5 ⟨y5,HY5,hy5,rfl,hq⟩;have ud5:=ud4.trans hq;clear hq;go_wp2_with fail
 refine tkK hK (HK.out _ ud5) fun hHeld=>?_
 clear hK K
 refine tk1 17 fun K hK=>?_
 go_simp;rw [HZH.out];refine (hexText_any p HP.out.1 _).mono ?_;rintro e6 wv6 ⟨y6,HY6,hy6,rfl,hq⟩;have ud6:=ud5.trans hq;clear hq;go_wp2_with fail
 refine tkK hK (HK.out _ ud6) fun hHeld=>?_
 clear hK K
 refine tk1 20 fun K hK=>?_
 go_simp;refine (dWordG x _ HP.out.2 (htab.upd (HU0.out.trans ud6))).mono ?_;rintro e7 wv7 ⟨y7,HY7,hy7,rfl,hq⟩;have ud7:=ud6.trans hq;clear hq;go_wp2_with fail
 refine tkK hK (HK.out _ ud7) fun hHeld=>?_
 clear hK K
 refine tk1 21 fun K hK=>?_
 go_simp
 refine tkK hK (HK.out _ (ud7.alloc _)) fun hHeld=>?_
 clear hK K
 refine tkY 22 hHeld ?_
 refine wpAnyH_done (by kernel_rfl) ?_ _
 refine NoPanic.normal ?_
 go_wp2_with fail
 have hXS:=strsIn_new wv7 [⟨#[101,118,101,110,116]⟩,y1,y2,y3,y4,y5,y6,y7] 9
 have hjoin:Lib.join ([⟨#[101,118,101,110,116]⟩,y1,y2,y3,y4,y5,y6,(y7:ByteArray)].map bs) [32]=TX:=by
  rw [← HJ2.out,← HY1.out,← HY2.out,← HY3.out,← HY4.out,← HY5.out,← HY6.out,← HY7.out]
  rfl
 have hj:=Tryz.strings_Join wv7.heap.size 0 8 [⟨#[101,118,101,110,116]⟩,y1,y2,y3,y4,y5,y6,y7] ⟨#[32]⟩ _ hXS.2 hXS.1 (by simp) (by simp) (by
  show (Lib.join (_) [32]).length≤_
  have e:=congrArg List.length hjoin
  have:=HL2.out
  exact Nat.le_trans (Nat.le_of_eq e) (by omega))
 refine hj.mono ?_
 rintro e9 w9 ⟨rfl,hb⟩
 have hu:=upd_of_below hb
 obtain ⟨T,hT⟩:∃ T:ByteArray,T=⟨(Lib.join ([⟨#[101,118,101,110,116]⟩,y1,y2,y3,y4,y5,y6,(y7:ByteArray)].map (·.data.toList)) (⟨#[32]⟩:ByteArray).data.toList).toArray⟩:=⟨_,rfl⟩
 rw [← hT]
 have HB:Hid (bs T=TX):=by
  show _=_
  rw [hT,bs_mk]
  exact hjoin
 have HU:=Lib.hid ((HU0.out.trans (ud7.alloc _)).trans hu)
 clear hj hXS hjoin hb hu hT
 go_wp2_with fail
 go_ret
 exact ⟨T,HB,by rw [← HB.out,bs_length];exact Nat.le_refl _,rfl,HU.out⟩
theorem evInfo (c:UInt8) (r s:Int):(Tryz.prog.info? 66).map (·.size)=some (evV c r s).toArray.size:=by
 rw [show (evV c r s).toArray.size=40 from evV_len c r s]
 kernel_rfl
theorem evOne (c:UInt8) (r s:Int):(evV c r s).toArray.all (·.oneCell')=true:=by
 rw [Array.all_eq_true_iff_forall_mem]
 intro v hv
 exact evV_one c r s v (by simpa using hv)
theorem EvG.info {e:EvG} (h:e.p.length=32):(Tryz.prog.info? 66).map (·.size)=some e.V.toArray.size:=by
 rw [show e.V.toArray.size=40 from EvG.V_len h]
 kernel_rfl
theorem EvG.one (e:EvG):e.V.toArray.all (·.oneCell')=true:=by
 rw [Array.all_eq_true_iff_forall_mem]
 intro v hv
 exact e.V_one v (by simpa using hv)
theorem EvG.code_is (e:EvG) {a b y:ByteArray} (ha:bs a=Lib.itoa e.r) (hb:bs b=Lib.itoa e.s) (hy:bs y=e.text):bs (a ++ ByteArray.mk #[32] ++ b ++ ByteArray.mk #[32] ++ y)=e.code:=by
 rw [bs_append,bs_append,bs_append,bs_append,ha,hb,hy,EvG.code]
 simp [bs]
set_option maxHeartbeats 4000000 in
theorem dEncodeG (ev:EvG) (he:ev.ok) (hx:ev.x.size≤1000000000) (w:World) (htab:Tabs w):Calls Tryz.prog 237 #[.agg ev.V.toArray] w (MkS ev.code w):=by
 obtain ⟨EV,hEV⟩:∃ EV,EV=ev.V.toArray:=⟨_,rfl⟩
 have HEV:=Lib.hid hEV
 obtain ⟨w0,hw0⟩:∃ w0,w.alloc (.cells EV 66)=w0:=⟨_,rfl⟩
 obtain ⟨g,hg⟩:∃ g,g=w.heap.size:=⟨_,rfl⟩
 have r0:EgA w0 g ev:=by rw [hg,← hw0,hEV];exact heap_alloc_new _ _
 have u0:Upd [] [] w w0:=by rw [← hw0];exact (Upd.refl _ _).alloc _
 have hp:=he.2.2.2.2.2.1
 obtain ⟨r,hr0⟩:∃ r,ev.r=r:=⟨_,rfl⟩
 obtain ⟨s,hs0⟩:∃ s,ev.s=s:=⟨_,rfl⟩
 have HK:Hid (∀ W,Upd [] [] w0 W→W.cell? ⟨g,38,none⟩=some (.int .i64 r)∧W.cell? ⟨g,39,none⟩=some (.int .i64 s)∧(Instr.loadAt 66 (.pointer (some ⟨g,0,none⟩))).run Tryz.prog W=.ok (.agg EV) W):=by
  intro W u
  rw [← hr0,← hs0]
  exact ⟨((r0.upd u).cell 38).trans (EvG.at38 hp),((r0.upd u).cell 39).trans (EvG.at39 hp),EvG.load hp hEV (r0.upd u)⟩
 have HI:Hid (i64in r∧i64in s):=by rw [← hr0,← hs0];exact he.2.2.2.2.2.2
 have HT:=Lib.hid (fun W (u:Upd [] [] w W)=>dTextG ev he hx W (htab.upd u))
 have HTL:=Lib.hid (EvG.text_len he hx)
 have HC:Hid (∀ a b y:ByteArray,bs a=Lib.itoa r→bs b=Lib.itoa s→bs y=ev.text→bs (a ++ ByteArray.mk #[32] ++ b ++ ByteArray.mk #[32] ++ y)=ev.code):=by
  rw [← hr0,← hs0]
  exact fun a b y ha hb hy=>ev.code_is ha hb hy
 have HX:=Lib.hid hx
 have HU0:=Lib.hid u0
 have ud0:Upd [] [] w0 w0.drew:=(Upd.refl _ _).drew
 have HG:=Lib.hid hg
 rw [← hEV]
 clear hEV r0 u0 hg he hx hp hr0 hs0
 go_enter Tryz.func237,Tryz.ntmps237
 go_upto_region 1 with (fail)
 rw [← HG.out]
 clear hw0
 refine wp_region_noPanic ?_
 refine wp_region_held_drew (S:=fun wp=>wp.cell? ⟨g,38,none⟩=some (.int .i64 r)∧wp.cell? ⟨g,39,none⟩=some (.int .i64 s)∧(Instr.loadAt 66 (.pointer (some ⟨g,0,none⟩))).run Tryz.prog wp=.ok (.agg EV) wp) (by kernel_rfl) ?_ (fun hHeld=>?_)
 · exact HK.out _ ud0
 refine tkY 0 hHeld ?_
 refine tkY 1 hHeld ?_
 refine tkY 2 hHeld ?_
 refine tkY 5 hHeld ?_
 refine tkY 6 hHeld ?_
 refine tkY 7 hHeld ?_
 refine tkL 11 hHeld EV (fun w hSw=>hSw.2.2) ?_
 refine tk1 3 fun K hK=>?_
 go_simp;refine (itoa_any r _ HI.out.1 (htab.upd (HU0.out.trans ud0))).mono ?_;rintro e1 wv1 ⟨y1,HY1,hy1,rfl,hq⟩;have ud1:=ud0.trans hq;clear hq;have hz1:y1.size≤20:=(by have:=itoa_len r HI.out.1;omega);have fa1:¬ 9223372036854775807<y1.size+1:=(by omega);go_wp2_with fail
 refine tkK hK (HK.out _ ud1) fun hHeld=>?_
 clear hK K
 refine tkY 4 hHeld ?_
 refine tk1 8 fun K hK=>?_
 go_simp;refine (itoa_any s _ HI.out.2 (htab.upd (HU0.out.trans ud1))).mono ?_;rintro e2 wv2 ⟨y2,HY2,hy2,rfl,hq⟩;have ud2:=ud1.trans hq;clear hq;have hz2:y2.size≤20:=(by have:=itoa_len s HI.out.2;omega);have fa2:¬ 9223372036854775807<y1.size+1+y2.size:=(by omega);have fa3:¬ 9223372036854775807<y1.size+1+y2.size+1:=(by omega);go_wp2_with fail
 refine tkK hK (HK.out _ ud2) fun hHeld=>?_
 clear hK K
 refine tkY 9 hHeld ?_
 refine tkY 10 hHeld ?_
 refine tk1 12 fun K hK=>?_
 go_simp;rw [HEV.out];refine (HT.out _ (HU0.out.trans ud2)).mono ?_;rintro e3 wv3 ⟨y3,HY3,hy3,rfl,hq⟩;have ud3:=ud2.trans hq;clear hq;have hz3:y3.size≤1000000250:=(by have:=HTL.out;have:=HX.out;omega);have fa4:¬ 9223372036854775807<y1.size+1+y2.size+1+y3.size:=(by omega);go_wp2_with fail
 refine tkK hK (HK.out _ ud3) fun hHeld=>?_
 clear hK K
 refine tkY 13 hHeld ?_
 refine tkY 14 hHeld ?_
 refine wpAnyH_done (by kernel_rfl) ?_ _
 refine NoPanic.normal ?_
 go_wp2_with fail
 go_ret
 have hb:=HC.out y1 y2 y3 HY1.out HY2.out HY3.out
 exact ⟨_,hb,by rw [← hb,bs_length];exact Nat.le_refl _,rfl,HU0.out.trans ud3⟩
theorem word30_any (t:ByteArray) (w:World) (ht:t.size≤10000000):Calls Tryz.prog 140 #[.string t] w (MkS (wordG (bs t)) w):=by
 have hi:i64in (t.size:Int):=by unfold i64in;omega
 go_enter Tryz.func140,Tryz.ntmps140
 go_wp2_with fail
 refine (decimal11_any (t.size:Int) w hi).mono ?_
 rintro e w1 ⟨y,HY,hy,rfl,hq⟩
 have hl:=itoa_len (t.size:Int) hi
 have hz:y.size≤20:=by omega
 have H:bs (y ++ ByteArray.mk #[58] ++ t)=wordG (bs t):=by
  rw [bs_append,bs_append,HY.out,wordG,bs_length,show bs (ByteArray.mk #[58])=[58] from rfl]
  simp only [List.append_assoc,List.cons_append,List.nil_append]
 have HH:=Lib.hid H
 clear H hy hl
 go_wp2_with fail
 go_ret
 exact ⟨_,HH.out,Nat.le_of_eq (bs_size HH.out),rfl,hq⟩
theorem wordG_len {t:List UInt8} (h:t.length≤10000000):(wordG t).length≤t.length+21:=by
 have:=itoa_len (t.length:Int) (by unfold i64in;omega)
 rw [wordG,List.length_append,List.length_cons]
 omega
theorem text_bs {q k h t n:Int} {p:List UInt8} {x:ByteArray} {y1 y2 y3 y4 y5 y6 y7:ByteArray} {TX:List UInt8} (hJ:Lib.join [wEv,Lib.itoa q,Lib.itoa k,Lib.itoa h,Lib.itoa t,Lib.itoa n,hexL p,wordG (bs x)] [32]=TX)
 (h1:bs y1=Lib.itoa q) (h2:bs y2=Lib.itoa k) (h3:bs y3=Lib.itoa h) (h4:bs y4=Lib.itoa t) (h5:bs y5=Lib.itoa n) (h6:bs y6=hexL p) (h7:bs y7=wordG (bs x)) :
 bs (ByteArray.mk #[101,118,101,110,116] ++ ByteArray.mk #[32] ++ y1 ++ ByteArray.mk #[32] ++ y2 ++ ByteArray.mk #[32] ++ y3 ++ ByteArray.mk #[32] ++ y4 ++ ByteArray.mk #[32] ++ y5 ++ ByteArray.mk #[32] ++ y6 ++ ByteArray.mk #[32] ++ y7)=TX:=by
 rw [← hJ]
 simp only [bs_append,h1,h2,h3,h4,h5,h6,h7,show bs (ByteArray.mk #[32])=[32] from rfl,show bs (ByteArray.mk #[101,118,101,110,116])=wEv from rfl]
 simp [Lib.join,List.intercalate_cons_cons]
set_option maxHeartbeats 8000000 in
theorem text30_any (e:EvG) (he:e.ok) (hx:e.x.size≤10000000) (w:World):Calls Tryz.prog 76 #[.agg e.V.toArray] w (MkS e.text w):=by
 obtain ⟨EV,hEV⟩:∃ EV,EV=e.V.toArray:=⟨_,rfl⟩
 obtain ⟨ZH,hZH⟩:∃ ZH,ZH=(byteVals e.p).toArray:=⟨_,rfl⟩
 have HZH:=Lib.hid hZH
 obtain ⟨w0,hw0⟩:∃ w0,w.alloc (.cells EV 66)=w0:=⟨_,rfl⟩
 obtain ⟨g,hg⟩:∃ g,g=w.heap.size:=⟨_,rfl⟩
 have r0:EgA w0 g e:=by rw [hg,← hw0,hEV];exact heap_alloc_new _ _
 have u0:Upd [] [] w w0:=by rw [← hw0];exact (Upd.refl _ _).alloc _
 have HJ:=Lib.hid e.text_join
 have HL:=Lib.hid (EvG.text_len he (by omega))
 have HOK:=Lib.hid he
 obtain ⟨q,hq0⟩:∃ q,e.q=q:=⟨_,rfl⟩
 obtain ⟨k,hk0⟩:∃ k,e.k=k:=⟨_,rfl⟩
 obtain ⟨h,hh0⟩:∃ h,e.h=h:=⟨_,rfl⟩
 obtain ⟨t,ht0⟩:∃ t,e.t=t:=⟨_,rfl⟩
 obtain ⟨n,hn0⟩:∃ n,e.n=n:=⟨_,rfl⟩
 obtain ⟨x,hx0⟩:∃ x,e.x=x:=⟨_,rfl⟩
 obtain ⟨p,hp0⟩:∃ p,e.p=p:=⟨_,rfl⟩
 have HK:Hid (∀ W,Upd [] [] w0 W→W.cell? ⟨g,0,none⟩=some (.int .i64 q)∧W.cell? ⟨g,1,none⟩=some (.int .i64 k)∧W.cell? ⟨g,2,none⟩=some (.int .i64 h)∧W.cell? ⟨g,3,none⟩=some (.int .i64 t)∧W.cell? ⟨g,4,none⟩=some (.int .i64 n)∧W.cell? ⟨g,5,none⟩=some (.string x)∧(Instr.loadAt 64 (.pointer (some ⟨g,6,none⟩))).run Tryz.prog W=.ok (.agg ZH) W):=by
  intro W u
  have c:=(r0.upd u)
  refine ⟨(c.cell 0).trans ?_,(c.cell 1).trans ?_,(c.cell 2).trans ?_,(c.cell 3).trans ?_,(c.cell 4).trans ?_,(c.cell 5).trans ?_,?_⟩
  · rw [← hq0];rfl
  · rw [← hk0];rfl
  · rw [← hh0];rfl
  · rw [← ht0];rfl
  · rw [← hn0];rfl
  · rw [← hx0];rfl
  · rw [hZH];exact run_loadAt_mid W g 6 64 _ _ c.hash Tryz.underlying64 rfl (hashInfoG he.2.2.2.2.2.1)
 have HI:Hid (i64in q∧i64in k∧i64in h∧i64in t∧i64in n):=by rw [← hq0,← hk0,← hh0,← ht0,← hn0];exact ⟨he.1,he.2.1,he.2.2.1,he.2.2.2.1,he.2.2.2.2.1⟩
 have HP:Hid (p.length=32∧x.size≤10000000):=by rw [← hp0,← hx0];exact ⟨he.2.2.2.2.2.1,hx⟩
 rw [hp0] at HZH
 have HJ2:Hid (Lib.join [wEv,Lib.itoa q,Lib.itoa k,Lib.itoa h,Lib.itoa t,Lib.itoa n,hexL p,wordG (bs x)] [32]=e.text):=by
  rw [← hq0,← hk0,← hh0,← ht0,← hn0,← hx0,← hp0]
  exact HJ.out
 have HL2:Hid (e.text.length≤1000000250):=Nat.le_trans HL.out (by omega)
 have HU0:=Lib.hid u0
 have ud0:Upd [] [] w0 w0.drew:=(Upd.refl _ _).drew
 have HG:=Lib.hid hg
 rw [← hEV]
 clear hEV hZH r0 u0 hg he hx HJ HL HOK hq0 hk0 hh0 ht0 hn0 hx0 hp0
 obtain ⟨TX,hTX⟩:∃ l,e.text=l:=⟨_,rfl⟩
 rw [hTX] at HJ2 HL2 ⊢
 clear hTX
 go_enter Tryz.func76,Tryz.ntmps76
 go_upto_region 1 with (fail)
 rw [← HG.out]
 clear hw0
 obtain ⟨c0,c1,c2,c3,c4,c5,c6⟩:=HK.out w0 (Upd.refl _ _)
 obtain ⟨gL,hgL⟩:∃ z,w0.heap.size=z:=⟨_,rfl⟩
 obtain ⟨w1,hw1⟩:∃ W,w0.alloc (.cells #[.int .i64 q,.int .i64 k,.int .i64 h,.int .i64 t,.int .i64 n] 3)=W:=⟨_,rfl⟩
 have RL:=Lib.hid (show w1.heap[gL]? =some (.cells #[.int .i64 q,.int .i64 k,.int .i64 h,.int .i64 t,.int .i64 n] 3 (0,0)) by rw [← hgL,← hw1];exact heap_alloc_new _ _)
 have HL5:Hid (∀ W,Upd [] [] w1 W→W.cell? ⟨gL,0,none⟩=some (.int .i64 q)∧W.cell? ⟨gL,1,none⟩=some (.int .i64 k)∧W.cell? ⟨gL,2,none⟩=some (.int .i64 h)∧W.cell? ⟨gL,3,none⟩=some (.int .i64 t)∧W.cell? ⟨gL,4,none⟩=some (.int .i64 n)):=by
  intro W u
  have r:=heap_upd RL.out u
  exact ⟨cell_of_row _ gL 0 _ _ _ r,cell_of_row _ gL 1 _ _ _ r,cell_of_row _ gL 2 _ _ _ r,cell_of_row _ gL 3 _ _ _ r,cell_of_row _ gL 4 _ _ _ r⟩
 have U1:=Lib.hid (show Upd [] [] w0 w1 by rw [← hw1];exact (Upd.refl _ _).alloc _)
 have v0:Hid (Upd [] [] w1 w1):=Upd.refl _ _
 clear ud0
 go_wp2_with fail
 clear hw1 hgL c0 c1 c2 c3 c4 c5 c6 RL
 refine wp_loop_rounds 6 ?_
 have z0:(0:Int)=0:=rfl
 rw [rounds_succ]
 have d1:=(HL5.out w1 v0.out).1
 go_wp2_with fail
 refine (decimal11_any q _ HI.out.1).mono ?_
 rintro e wv1 ⟨y1,HY1,hy,rfl,hq⟩
 have hz1:y1.size≤20:=by
  have:=itoa_len q HI.out.1
  omega
 have v1:=Lib.hid (v0.out.trans hq)
 clear hy hq d1
 go_wp2_with fail
 rw [rounds_succ]
 have d2:=(HL5.out wv1 v1.out).2.1
 go_wp2_with fail
 refine (decimal11_any k _ HI.out.2.1).mono ?_
 rintro e wv2 ⟨y2,HY2,hy,rfl,hq⟩
 have hz2:y2.size≤20:=by
  have:=itoa_len k HI.out.2.1
  omega
 have v2:=Lib.hid (v1.out.trans hq)
 clear hy hq d2
 go_wp2_with fail
 rw [rounds_succ]
 have d3:=(HL5.out wv2 v2.out).2.2.1
 go_wp2_with fail
 refine (decimal11_any h _ HI.out.2.2.1).mono ?_
 rintro e wv3 ⟨y3,HY3,hy,rfl,hq⟩
 have hz3:y3.size≤20:=by
  have:=itoa_len h HI.out.2.2.1
  omega
 have v3:=Lib.hid (v2.out.trans hq)
 clear hy hq d3
 go_wp2_with fail
 rw [rounds_succ]
 have d4:=(HL5.out wv3 v3.out).2.2.2.1
 go_wp2_with fail
 refine (decimal11_any t _ HI.out.2.2.2.1).mono ?_
 rintro e wv4 ⟨y4,HY4,hy,rfl,hq⟩
 have hz4:y4.size≤20:=by
  have:=itoa_len t HI.out.2.2.2.1
  omega
 have v4:=Lib.hid (v3.out.trans hq)
 clear hy hq d4
 go_wp2_with fail
 rw [rounds_succ]
 have d5:=(HL5.out wv4 v4.out).2.2.2.2
 go_wp2_with fail
 refine (decimal11_any n _ HI.out.2.2.2.2).mono ?_
 rintro e wv5 ⟨y5,HY5,hy,rfl,hq⟩
 have hz5:y5.size≤20:=by
  have:=itoa_len n HI.out.2.2.2.2
  omega
 have v5:=Lib.hid (v4.out.trans hq)
 clear hy hq d5
 go_wp2_with fail
 have hp6:(hexL p).length=64:=by rw [hexL_len,HP.out.1]
 have hw7:(wordG (bs x)).length≤10000021:=Nat.le_trans (wordG_len (by rw [bs_length];exact HP.out.2)) (by rw [bs_length];have:=HP.out.2;omega)
 have HP6:=Lib.hid hp6
 have HW7:=Lib.hid hw7
 have u5:=U1.out.trans v5.out
 clear hp6 hw7
 rw [rounds_succ]
 go_upto_region 7 with (fail)
 have ud0:Upd [] [] w0 wv5.drew:=u5.drew
 have fa1:¬ 9223372036854775807<6+y1.size+1+y2.size+1+y3.size+1+y4.size+1+y5.size+1:=by omega
 refine wp_region_noPanic ?_
 refine wp_region_held_drew (S:=fun wp=>wp.cell? ⟨g,5,none⟩=some (.string x)∧(Instr.loadAt 64 (.pointer (some ⟨g,6,none⟩))).run Tryz.prog wp=.ok (.agg ZH) wp) (by kernel_rfl) ?_ (fun hHeld=>?_)
 · exact (HK.out _ ud0).2.2.2.2.2
 refine tkY 0 hHeld ?_
 refine tkY 1 hHeld ?_
 refine tkY 2 hHeld ?_
 refine tkL 3 hHeld ZH (fun w hSw=>hSw.2) ?_
 refine tkY 7 hHeld ?_
 refine tkY 8 hHeld ?_
 refine tk1 4 fun K hK=>?_
 go_simp;rw [HZH.out];refine (rhexText_any p HP.out.1 _).mono ?_;rintro e6 wv6 ⟨y6,HY6,hy6,rfl,hq⟩;have ud6:=ud0.trans hq;clear hq;have hz6:y6.size≤64:=(by have:=HP6.out;omega);clear hy6;have fa2:¬ 9223372036854775807<6+y1.size+1+y2.size+1+y3.size+1+y4.size+1+y5.size+1+y6.size:=(by omega);have fa3:¬ 9223372036854775807<6+y1.size+1+y2.size+1+y3.size+1+y4.size+1+y5.size+1+y6.size+1:=(by omega);go_wp2_with fail
 refine tkK hK ((HK.out _ ud6).2.2.2.2.2) fun hHeld=>?_
 clear hK K
 refine tkY 5 hHeld ?_
 refine tkY 6 hHeld ?_
 refine tk1 9 fun K hK=>?_
 go_simp;refine (word30_any x _ HP.out.2).mono ?_;rintro e7 wv7 ⟨y7,HY7,hy7,rfl,hq⟩;have ud7:=ud6.trans hq;clear hq;have hz7:y7.size≤10000021:=(by have:=HW7.out;omega);clear hy7;have fa4:¬ 9223372036854775807<6+y1.size+1+y2.size+1+y3.size+1+y4.size+1+y5.size+1+y6.size+1+y7.size:=(by omega);go_wp2_with fail
 refine tkK hK ((HK.out _ ud7).2.2.2.2.2) fun hHeld=>?_
 clear hK K
 refine tkY 10 hHeld ?_
 refine tkY 11 hHeld ?_
 refine wpAnyH_done (by kernel_rfl) ?_ _
 refine NoPanic.normal ?_
 go_wp2_with fail
 go_ret
 have hb:=text_bs HJ2.out HY1.out HY2.out HY3.out HY4.out HY5.out HY6.out HY7.out
 exact ⟨_,hb,Nat.le_of_eq (bs_size hb),rfl,HU0.out.trans ud7⟩
end Go.Proofs.YtmjlkkbbnkanpaaGreatDoor
