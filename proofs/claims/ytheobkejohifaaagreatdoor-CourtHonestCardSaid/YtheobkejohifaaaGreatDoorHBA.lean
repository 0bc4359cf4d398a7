/- sorteslaw33.three and what follows. -/
import Derived.Test.YtheobkejohifaaaGreatDoorHAV
import Derived.Maps.OwnSet
import Derived.Test.YtheobkejohifaaaGreatDoorHAC
import Derived.Test.YtheobkejohifaaaGreatDoorHAA
import Derived.Test.YtheobkejohifaaaGreatDoorHAZ
namespace Go.Proofs.YtheobkejohifaaaGreatDoor
open Go.RowKit
set_option maxRecDepth 100000
def supV (g:Nat):Array Value:=#[.slice (some ⟨g,0,none⟩) 1 1,.slice none 0 0,.slice none 0 0,.slice none 0 0,.int .i64 0,.int .i64 0]
theorem supInfo (g:Nat):(Tryz.prog.info? 30).map (·.size)=some (supV g).size:=by
 show _=some 6
 kernel_rfl
def pqj (w:World) (e:Ending) (w':World):Prop :=
 ∃ (x p gM:Nat),Hid (x=keyN three)∧Hid (p=gP x)∧x<1152921504606845789∧p<2305843009213691579∧e=.returned (.tuple #[.agg (supV gM),.int .i64 (x:Int)])∧Hid (w'.heap[gM]? =some (.cells #[.int .i64 3,.int .i64 1,.int .i64 (p:Int)] 64 (0,0)))∧Upd [] [] w w'
set_option maxHeartbeats 2000000 in
theorem pnC (w:World) (htab:Tabs w):Calls Tryz.prog 17 #[] w (pqj w):=by
 obtain ⟨g,hg⟩:∃ g,w.heap.size=g:=⟨_,rfl⟩
 obtain ⟨w0,hw0⟩:∃ W,w.alloc (.cells #[.slice none 0 0,.slice none 0 0,.slice none 0 0,.slice none 0 0,.int .i64 0,.int .i64 0] 30)=W:=⟨_,rfl⟩
 have r0:=Lib.hid (show w0.heap[g]? =some (.cells #[.slice none 0 0,.slice none 0 0,.slice none 0 0,.slice none 0 0,.int .i64 0,.int .i64 0] 30 (0,0)) by rw [← hg,← hw0];exact heap_alloc_new _ _)
 have u0:Upd [] [] w w0:=by rw [← hw0];exact (Upd.refl _ _).alloc _
 have HU0:=Lib.hid u0
 have HG:=Lib.hid hg
 clear u0
 go_enter Tryz.func17,Tryz.ntmps17
 go_wp2_with fail
 refine (ppA ⟨#[116,104,114,101,101]⟩ w0 (by decide) (htab.upd HU0.out)).mono ?_
 rintro e w1 ⟨x,p,HX,HP,hx,hp,rfl,hq⟩
 rw [show bs ⟨#[116,104,114,101,101]⟩=three from rfl] at HX HP
 have HPX:Hid (p=gP x):=by show _=_;rw [HP.out,HX.out]
 have r1:=Lib.hid (paa r0.out hq)
 have U1:=Lib.hid (HU0.out.trans hq)
 obtain ⟨gM,hgM⟩:∃ g,w1.heap.size=g:=⟨_,rfl⟩
 obtain ⟨w2,hw2⟩:∃ W,w1.alloc (.cells #[.int .i64 3,.int .i64 1,.int .i64 (p:Int)] 64)=W:=⟨_,rfl⟩
 have rM:w2.heap[gM]? =some (.cells #[.int .i64 3,.int .i64 1,.int .i64 (p:Int)] 64 (0,0)):=by rw [← hgM,← hw2];exact heap_alloc_new _ _
 have u2:Upd [] [] w1 w2:=by rw [← hw2];exact (Upd.refl _ _).alloc _
 have r2:=Lib.hid (paa r1.out u2)
 have hlt:g<gM:=by rw [← hgM];exact pag r1.out
 obtain ⟨w3,hw3⟩:∃ W,w2.setRow g (supV gM)=W:=⟨_,rfl⟩
 have r3:(w2.setRow g (supV gM)).heap[g]? =some (.cells (supV gM) 30 (0,0)):=setRow_heap _ _ _ _ _ _ r2.out
 have rM3:(w2.setRow g (supV gM)).heap[gM]? =some (.cells #[.int .i64 3,.int .i64 1,.int .i64 (p:Int)] 64 (0,0)):=pal rM (by omega) _
 have U3:=(U1.out.trans u2).setRowNew (show w.heap.size≤g from Nat.le_of_eq HG.out) (supV gM)
 rw [hw3] at r3 rM3 U3
 have HW3:=Lib.hid hw3
 have R3:=Lib.hid r3
 have RM3:=Lib.hid rM3
 have HU3:=Lib.hid U3
 clear hq r0 r1 U1 rM u2 hw3 r3 rM3 U3 HP
 go_wp2_with (first | (refine wpList_store_rowAs rfl 30 _ _ rfl g (supV gM) rfl rfl _ _ r2.out (supInfo gM) rfl (by simp [supV,Value.oneCell']) w3 HW3.out ?_))
 refine bodyPost_ret (results_row_tmp rfl _ _ g _ (supV gM) _ _ rfl R3.out Tryz.underlying30 rfl (supInfo gM)) rfl ⟨x,p,gM,HX,HPX,hx,hp,rfl,RM3,HU3.out⟩
theorem pif (c:UInt8) (hc:c≠32) (T:ByteArray) (hT:bs T=tOf c) (w:World) (htab:Tabs w):Calls Tryz.prog 144 #[.string T] w (Mk (.tuple #[.string ⟨#[]⟩,.bool false]) w):=by
 obtain ⟨m,hm⟩:=htab.m
 have hts:T.size=84:=by rw [← pac,hT,pgW]
 have HS:Hid (Calls Tryz.prog 182 #[.string T,.string ⟨#[32]⟩] w (fun e w'=>∃ g,e=.returned (.slice (some ⟨g,0,none⟩) 8 8)∧Upd [] [] w w')):=by
  refine (Tryz.strings_Split T ⟨#[32]⟩ m w (by omega) hm (by decide)).mono ?_
  rintro e w' ⟨rfl,rfl⟩
  rw [pm9 hc hT]
  exact ⟨_,rfl,(Upd.refl _ _).alloc _⟩
 clear hm hts
 go_enter Tryz.func144,Tryz.ntmps144
 go_wp2_with fail
 refine HS.out.mono ?_
 rintro e w1 ⟨g,rfl,hq⟩
 have HU:=Lib.hid hq
 clear hq HS
 go_wp2_with fail
 go_ret2
 exact ⟨rfl,HU.out⟩
theorem pjq (T:ByteArray) (w:World):Calls Tryz.prog 93 #[.string T,.string T] w (Mk (.bool false) w):=by
 go_enter Tryz.func93,Tryz.ntmps93
 go_wp2_with fail
 go_ret
 exact ⟨rfl,Upd.refl _ _⟩
set_option maxHeartbeats 4000000 in
theorem pgi (T U:ByteArray) (hT:bs T=tOf 97) (hU:bs U=tOf 98) (w:World) (htab:Tabs w):Calls Tryz.prog 93 #[.string T,.string U] w (Mk (.bool true) w):=by
 obtain ⟨EV,hEV⟩:∃ EV,EV=(evV 97 0 0).toArray:=⟨_,rfl⟩
 obtain ⟨EW,hEW⟩:∃ EW,EW=(evV 98 0 0).toArray:=⟨_,rfl⟩
 have HEVI:Hid ((Tryz.prog.info? 53).map (·.size)=some EV.size):=by rw [hEV];exact pgd _ 0 0
 have HEVO:Hid (EV.all (·.oneCell')=true):=by rw [hEV];exact pnb _ 0 0
 have HEVZ:Hid ((#[.int .i64 0,.int .i64 0,.int .i64 0,.int .i64 0,.int .i64 0,.string ⟨#[]⟩,.int .u8 0,.int .u8 0,.int .u8 0,.int .u8 0,.int .u8 0,.int .u8 0,.int .u8 0,.int .u8 0,.int .u8 0,.int .u8 0,.int .u8 0,.int .u8 0,.int .u8 0,.int .u8 0,.int .u8 0,.int .u8 0,.int .u8 0,.int .u8 0,.int .u8 0,.int .u8 0,.int .u8 0,.int .u8 0,.int .u8 0,.int .u8 0,.int .u8 0,.int .u8 0,.int .u8 0,.int .u8 0,.int .u8 0,.int .u8 0,.int .u8 0,.int .u8 0,.int .i64 0,.int .i64 0]:Array Value).size=EV.size):=by show _=_;rw [hEV,paz,pce];exact (pcN _ 0 0).symm
 have HEWI:Hid ((Tryz.prog.info? 53).map (·.size)=some EW.size):=by rw [hEW];exact pgd _ 0 0
 have HEWO:Hid (EW.all (·.oneCell')=true):=by rw [hEW];exact pnb _ 0 0
 have HEWZ:Hid ((#[.int .i64 0,.int .i64 0,.int .i64 0,.int .i64 0,.int .i64 0,.string ⟨#[]⟩,.int .u8 0,.int .u8 0,.int .u8 0,.int .u8 0,.int .u8 0,.int .u8 0,.int .u8 0,.int .u8 0,.int .u8 0,.int .u8 0,.int .u8 0,.int .u8 0,.int .u8 0,.int .u8 0,.int .u8 0,.int .u8 0,.int .u8 0,.int .u8 0,.int .u8 0,.int .u8 0,.int .u8 0,.int .u8 0,.int .u8 0,.int .u8 0,.int .u8 0,.int .u8 0,.int .u8 0,.int .u8 0,.int .u8 0,.int .u8 0,.int .u8 0,.int .u8 0,.int .i64 0,.int .i64 0]:Array Value).size=EW.size):=by show _=_;rw [hEW,paz,pce];exact (pcN _ 0 0).symm
 have hne:(T.toList == U.toList)=false:=by
  rw [beq_eq_false_iff_ne,ByteArray.toList_eq,ByteArray.toList_eq]
  intro e
  have e':bs T=bs U:=e
  rw [hT,hU] at e'
  have:=List.append_cancel_left e'
  simp at this
 have HB1:=Lib.hid (pif 97 (by decide) T hT w htab)
 have HB2:=Lib.hid (fun W (u:Upd [] [] w W)=>pif 98 (by decide) U hU W (htab.upd u))
 have HE1:=Lib.hid (fun W (u:Upd [] [] w W)=>ph3 97 T hT W (htab.upd u))
 have HE2:=Lib.hid (fun W (u:Upd [] [] w W)=>ph3 98 U hU W (htab.upd u))
 rw [← hEV] at HE1
 rw [← hEW] at HE2
 have c0:EV[0]? =some (.int .i64 5):=by rw [hEV];rfl
 have d0:EW[0]? =some (.int .i64 5):=by rw [hEW];rfl
 have HC:=Lib.hid (And.intro c0 d0)
 clear hT hU hEV hEW c0 d0
 go_enter Tryz.func93,Tryz.ntmps93
 go_wp2_with fail
 refine HB1.out.mono ?_
 rintro e w1 ⟨rfl,hq⟩
 have U1:=Lib.hid hq
 clear hq HB1
 go_wp2_with fail
 refine (HB2.out w1 U1.out).mono ?_
 rintro e w2 ⟨rfl,hq⟩
 have U2:=Lib.hid (U1.out.trans hq)
 clear hq HB2 U1
 go_wp2_with fail
 refine (HE1.out w2 U2.out).mono ?_
 rintro e w3 ⟨rfl,hq⟩
 have U3:=Lib.hid (U2.out.trans hq)
 clear hq HE1 U2
 obtain ⟨w4,Z4,W4,R4,hq4⟩:=paC w3 53 #[.int .i64 0,.int .i64 0,.int .i64 0,.int .i64 0,.int .i64 0,.string ⟨#[]⟩,.int .u8 0,.int .u8 0,.int .u8 0,.int .u8 0,.int .u8 0,.int .u8 0,.int .u8 0,.int .u8 0,.int .u8 0,.int .u8 0,.int .u8 0,.int .u8 0,.int .u8 0,.int .u8 0,.int .u8 0,.int .u8 0,.int .u8 0,.int .u8 0,.int .u8 0,.int .u8 0,.int .u8 0,.int .u8 0,.int .u8 0,.int .u8 0,.int .u8 0,.int .u8 0,.int .u8 0,.int .u8 0,.int .u8 0,.int .u8 0,.int .u8 0,.int .u8 0,.int .i64 0,.int .i64 0] EV
 obtain ⟨gA,hgA⟩:∃ g,w3.heap.size=g:=⟨_,rfl⟩
 rw [hgA] at Z4 W4 R4
 have U4:=Lib.hid (U3.out.trans hq4)
 have hl4:gA<w4.heap.size:=pag R4.out
 clear hq4 U3
 go_wp2_with (first | (refine wpList_store_rowAs rfl 53 _ _ rfl gA EV rfl rfl _ _ Z4.out HEVI.out HEVZ.out HEVO.out w4 W4.out ?_))
 refine (HE2.out w4 U4.out).mono ?_
 rintro e w5 ⟨rfl,hq⟩
 have R5:=Lib.hid (paa R4.out hq)
 have U5:=Lib.hid (U4.out.trans hq)
 have hl5:gA<w5.heap.size:=Nat.lt_of_lt_of_le hl4 hq.size
 clear hq HE2 U4 R4 Z4 W4
 obtain ⟨w6,Z6,W6,R6,hq6⟩:=paC w5 53 #[.int .i64 0,.int .i64 0,.int .i64 0,.int .i64 0,.int .i64 0,.string ⟨#[]⟩,.int .u8 0,.int .u8 0,.int .u8 0,.int .u8 0,.int .u8 0,.int .u8 0,.int .u8 0,.int .u8 0,.int .u8 0,.int .u8 0,.int .u8 0,.int .u8 0,.int .u8 0,.int .u8 0,.int .u8 0,.int .u8 0,.int .u8 0,.int .u8 0,.int .u8 0,.int .u8 0,.int .u8 0,.int .u8 0,.int .u8 0,.int .u8 0,.int .u8 0,.int .u8 0,.int .u8 0,.int .u8 0,.int .u8 0,.int .u8 0,.int .u8 0,.int .u8 0,.int .i64 0,.int .i64 0] EW
 obtain ⟨gB,hgB⟩:∃ g,w5.heap.size=g:=⟨_,rfl⟩
 rw [hgB] at Z6 W6 R6
 have cA:w6.cell? ⟨gA,0,none⟩=some (.int .i64 5):=(cell_of_row _ gA 0 _ _ _ (paa R5.out hq6)).trans HC.out.1
 have cB:w6.cell? ⟨gB,0,none⟩=some (.int .i64 5):=(cell_of_row _ gB 0 _ _ _ R6.out).trans HC.out.2
 have U6:=Lib.hid (U5.out.trans hq6)
 clear hq6 U5 R5 R6 HC
 go_wp2_with (first | (refine wpList_store_rowAs rfl 53 _ _ rfl gB EW rfl rfl _ _ Z6.out HEWI.out HEWZ.out HEWO.out w6 W6.out ?_))
 go_ret
 exact ⟨rfl,U6.out⟩
end Go.Proofs.YtheobkejohifaaaGreatDoor

namespace Go.Proofs.YtheobkejohifaaaGreatDoor
open Go.Maps
set_option maxRecDepth 100000
def RV (v:Value):Option (DataW Value × List MemPlace):=some (.held v,[])
def MapF (w:World) (b n:Nat) (f:Int→Option Value):Prop :=
 ∃ D:DataW Value,w.ownsMap Tryz.prog 3 RV b n D∧IsMap D∧∀ x:Int,Maps.has D (.int .i64 x)=(f x).isSome∧∀ v,f x=some v→∀ z,D.atKey (.int .i64 x) z=.held v
theorem keyI:Keyed Tryz.prog 3:=int_keyed Tryz.underlying3
theorem pnD {x:Int} (hx:-9223372036854775808≤x∧x≤9223372036854775807):keyOf Tryz.prog 3 (.int .i64 x)=some (.int .i64 x):=keyOf_int_mk Tryz.underlying3 (WalkArith.wf_i64 hx)
theorem MapF.made (w:World):MapF (w.alloc (.map #[] 0)) w.heap.size 0 (fun _=>none) :=
 ⟨.map [],World.ownsMap_made _ _ _ _,isMap_empty,fun _=>⟨rfl,fun _ h=>by cases h⟩⟩
theorem MapF.lt {w:World} {b n:Nat} {f:Int→Option Value} (h:MapF w b n f):b<w.heap.size:=by
 obtain ⟨D,ho,_⟩:=h
 exact ho.lt
theorem MapF.upd {w w':World} {S S':List Nat} {b n:Nat} {f:Int→Option Value} (h:MapF w b n f) (u:Upd S S' w w') (hb:b ∉ S):MapF w' b n f:=by
 have hlt:=h.lt
 obtain ⟨D,⟨es,clock,hg,F,hs,hD⟩,hm,hf⟩:=h
 exact ⟨D,⟨es,clock,(u.block b hlt hb).trans hg,F,hs,hD⟩,hm,hf⟩
theorem MapF.look_ok {w:World} {b n:Nat} {f:Int→Option Value} {t e:TypeId} {x:Int} {z:Value} (h:MapF w b n f) (ht:Tryz.prog.underlying t=some (.map 3 e)) (hz:(zeroValue e).run Tryz.prog w=.ok z w) (hx:-9223372036854775808≤x∧x≤9223372036854775807) :
 (Instr.lookup t (.map (some b)) (.int .i64 x) true).run Tryz.prog w=.ok (.tuple #[(f x).getD z,.bool (f x).isSome]) w:=by
 obtain ⟨D,ho,_,hf⟩:=h
 obtain ⟨v,ps,hrun,hv⟩:=ho.look_ok keyI ht hz (zd:=.held z) (zp:=[]) rfl (pnD hx)
 obtain ⟨h1,h2⟩:=hf x
 rw [hrun,h1]
 unfold RV at hv
 cases hfx:f x with
 | none =>
  rw [hfx] at h1
  rw [atKey_of_not_has h1] at hv
  cases hv
  rfl
 | some y =>
  rw [h2 y hfx] at hv
  cases hv
  rfl
theorem MapF.put {w:World} {b n:Nat} {f:Int→Option Value} {t e:TypeId} {x:Int} {v:Value} (h:MapF w b n f) (ht:Tryz.prog.underlying t=some (.map 3 e)) (hn:n<maxLen) (hx:-9223372036854775808≤x∧x≤9223372036854775807) :
 ∃ w',(Instr.mapUpdate t (.map (some b)) (.int .i64 x) v).run Tryz.prog w=.ok () w'∧MapF w' b (n+1) (fun y=>if y=x then some v else f y)∧Upd [b] [b] w w':=by
 obtain ⟨D,ho,hm,hf⟩:=h
 obtain ⟨w',hrun,ho',hg⟩:=ho.update keyI ht hn (d:=.held v) (ps:=[]) (pnD hx) rfl
 refine ⟨w',hrun,⟨_,ho',hm.put _ _,fun y=>?_⟩,⟨hg.os,hg.tape,hg.output,hg.size,fun k hk hne=>hg.block k hk (fun e=>hne (by cases e;exact List.mem_cons_self)),fun k hk=>.inl hk⟩⟩
 show has _ _=(if y=x then some v else f y).isSome∧∀ v',(if y=x then some v else f y)=some v'→_
 by_cases hy:y=x
 · subst hy
   rw [if_pos rfl]
   exact ⟨has_put_same (k:=.int .i64 y) hm trivial _,fun v' hv' z=>by cases hv';exact atKey_put_same (k:=.int .i64 y) hm trivial _ _⟩
 · rw [if_neg hy]
   have hne:(Lit.int .i64 y)≠Lit.int .i64 x:=fun e=>hy (by cases e;rfl)
   exact ⟨(has_put_other hne _).trans (hf y).1,fun v' hv' z=>(atKey_put_other hne _ _).trans ((hf y).2 v' hv' z)⟩
end Go.Proofs.YtheobkejohifaaaGreatDoor

namespace Go.Proofs.YtheobkejohifaaaGreatDoor
open Go.RowKit
set_option maxRecDepth 100000
theorem wpList_ins_F (w:World) {ops:Array Oper} {rest:List Oper} {o:Oper} {a:Act} {Q:Exit→Act→World→Prop}
 (hg:o.guard=none) (m x v:Operand) (t:TypeId) (hop:o.op=Op.insert t m x v) (e:TypeId) (ht:Tryz.prog.underlying t=some (.map 3 e)) (b n:Nat) (f:Int→Option Value)
 (hm:a.eval m=.map (some b)) (h:MapF w b n f) (hn:n<maxLen) (key:Int) (val:Value) (hx:a.eval x=.int .i64 key) (hv:a.eval v=val) (hk:-9223372036854775808≤key∧key≤9223372036854775807)
 (hK:∀ w',MapF w' b (n+1) (fun y=>if y=key then some val else f y)→Upd [b] [b] w w'→wpList Tryz.prog ops Q rest (a.put o.dst undef) w') :
 wpList Tryz.prog ops Q (o :: rest) a w:=by
 refine wpList_plain hg fun K' hK'=>?_
 obtain ⟨w',hrun,r1,r2⟩:=h.put (x:=key) (v:=val) ht hn hk
 unfold Oper.wp
 simp [execOp,hop,hm,hx,hv,hrun,Result.andThen]
 exact hK' _ _ (hK w' r1 r2)
theorem Upd.ownAtN {B:Nat} {a b c:World} (h:Upd [] [] a b) (k:Upd [B] [B] b c) (hB:a.heap.size≤B):Upd [] [] a c :=
 ⟨k.os.trans h.os,k.tape.trans h.tape,k.output.trans h.output,Nat.le_trans h.size k.size,fun i hi _=>(k.block i (Nat.lt_of_lt_of_le hi h.size) (by simp;omega)).trans (h.block i hi (by simp)),fun _ hk=>absurd hk (by simp)⟩
def fnV (n:Nat):Value:=.func (.func n) #[] #[]
def crtV (k:Bool) (f g p:Nat):Value:=.agg #[.bool k,fnV f,fnV g,fnV p]
def crtF (y:Int):Option Value :=
 if y=7 then some (crtV true 102 103 105) else
 if y=6 then some (crtV true 102 103 104) else
 if y=5 then some (crtV false 100 89 101) else
 if y=4 then some (crtV false 98 91 99) else
 if y=3 then some (crtV false 96 89 97) else
 if y=2 then some (crtV false 94 89 95) else
 if y=1 then some (crtV false 88 91 92) else none
theorem undC:Tryz.prog.underlying 98=some (.map 3 96):=by kernel_rfl
theorem plr (w:World):(zeroValue 96).run Tryz.prog w=.ok (.agg #[.bool false,.nilFunc,.nilFunc,.nilFunc]) w:=by kernel_rfl
set_option maxHeartbeats 4000000 in
theorem pc5 (w:World):Calls Tryz.prog 39 #[] w (fun e w'=>∃ b,e=.returned (.map (some b))∧Hid (MapF w' b 7 crtF)∧Upd [] [] w w'):=by
 have hF0:=MapF.made w
 have u0:Upd [] [] w (w.alloc (.map #[] 0)):=(Upd.refl _ _).alloc _
 have HU0:=Lib.hid u0
 have hmm:=@run_makeMap Tryz.prog
 clear u0
 go_enter Tryz.func39,Tryz.ntmps39
 go_upto_region 4 with (fail)
 go_wp2_with (first | (refine wpList_ins_F _ rfl _ _ _ 98 rfl _ undC w.heap.size 0 _ rfl hF0 (by unfold maxLen;omega) _ _ rfl rfl (by omega) ?_;intro w1 hF1 hU1) | (refine wpList_ins_F _ rfl _ _ _ 98 rfl _ undC w.heap.size 1 _ rfl hF1 (by unfold maxLen;omega) _ _ rfl rfl (by omega) ?_;intro w2 hF2 hU2) | (refine wpList_ins_F _ rfl _ _ _ 98 rfl _ undC w.heap.size 2 _ rfl hF2 (by unfold maxLen;omega) _ _ rfl rfl (by omega) ?_;intro w3 hF3 hU3) | (refine wpList_ins_F _ rfl _ _ _ 98 rfl _ undC w.heap.size 3 _ rfl hF3 (by unfold maxLen;omega) _ _ rfl rfl (by omega) ?_;intro w4 hF4 hU4) | (refine wpList_ins_F _ rfl _ _ _ 98 rfl _ undC w.heap.size 4 _ rfl hF4 (by unfold maxLen;omega) _ _ rfl rfl (by omega) ?_;intro w5 hF5 hU5) | (refine wpList_ins_F _ rfl _ _ _ 98 rfl _ undC w.heap.size 5 _ rfl hF5 (by unfold maxLen;omega) _ _ rfl rfl (by omega) ?_;intro w6 hF6 hU6) | (refine wpList_ins_F _ rfl _ _ _ 98 rfl _ undC w.heap.size 6 _ rfl hF6 (by unfold maxLen;omega) _ _ rfl rfl (by omega) ?_;intro w7 hF7 hU7))
 go_ret
 refine ⟨_,rfl,?_,?_⟩
 · exact hF7
 · exact ((((((HU0.out.ownAtN hU1 (Nat.le_refl _)).ownAtN hU2 (Nat.le_refl _)).ownAtN hU3 (Nat.le_refl _)).ownAtN hU4 (Nat.le_refl _)).ownAtN hU5 (Nat.le_refl _)).ownAtN hU6 (Nat.le_refl _)).ownAtN hU7 (Nat.le_refl _)
def evdL (kind who aw:Int) (aT:ByteArray) (ar as' bw:Int) (bT:ByteArray) (br bs' low high:Int) (F A B:ByteArray):List Value :=
 [.int .i64 kind,.int .i64 who,.int .i64 aw,.string aT,.int .i64 ar,.int .i64 as',.int .i64 bw,.string bT,.int .i64 br,.int .i64 bs',.int .i64 low,.int .i64 high,.string F,.string A,.string B,.int .i64 0,.int .i64 0,.int .i64 0,.int .i64 0]
def mtL (m1 m2 m3 m4:Value) (kind who aw:Int) (aT:ByteArray) (ar as' bw:Int) (bT:ByteArray) (br bs' low high:Int) (F A B:ByteArray) (id wt pub:Int):List Value :=
 [m1,m2,m3,m4,.int .i64 0,.int .i64 0,.int .i64 kind,.int .i64 who,.int .i64 aw,.string aT,.int .i64 ar,.int .i64 as',.int .i64 bw,.string bT,.int .i64 br,.int .i64 bs',.int .i64 low,.int .i64 high,.string F,.string A,.string B,.int .i64 0,.int .i64 0,.int .i64 0,.int .i64 0,.int .i64 0,.int .i64 id,.int .i64 wt,.int .i64 pub]
structure MtIs (M:Array Value) (aw:Int) (aT:ByteArray) (ar as' bw:Int) (bT:ByteArray) (br bs' low high:Int) (F A B:ByteArray) (id pub:Int):Prop where
 sz:M.size=29
 a0:M[8]? =some (.int .i64 aw)
 a1:M[9]? =some (.string aT)
 a2:M[10]? =some (.int .i64 ar)
 a3:M[11]? =some (.int .i64 as')
 b0:M[12]? =some (.int .i64 bw)
 b1:M[13]? =some (.string bT)
 b2:M[14]? =some (.int .i64 br)
 b3:M[15]? =some (.int .i64 bs')
 d0:M[16]? =some (.int .i64 low)
 d1:M[17]? =some (.int .i64 high)
 d2:M[18]? =some (.string F)
 d3:M[19]? =some (.string A)
 d4:M[20]? =some (.string B)
 i:M[26]? =some (.int .i64 id)
 p:M[28]? =some (.int .i64 pub)
theorem MtIs.of (m1 m2 m3 m4:Value) (kind who aw:Int) (aT:ByteArray) (ar as' bw:Int) (bT:ByteArray) (br bs' low high:Int) (F A B:ByteArray) (id wt pub:Int) :
 MtIs (mtL m1 m2 m3 m4 kind who aw aT ar as' bw bT br bs' low high F A B id wt pub).toArray aw aT ar as' bw bT br bs' low high F A B id pub :=
 ⟨rfl,rfl,rfl,rfl,rfl,rfl,rfl,rfl,rfl,rfl,rfl,rfl,rfl,rfl,rfl,rfl⟩
theorem pku {M:Array Value} (h:M.size=29):(Tryz.prog.info? 103).map (·.size)=some M.size:=by
 rw [h]
 kernel_rfl
section
variable {M : Array Value} {aw ar as' bw br bs' low high id pub : Int} {aT bT F A B : ByteArray}
set_option maxHeartbeats 2000000 in
theorem peb (h:MtIs M aw aT ar as' bw bT br bs' low high F A B id pub) (vw vr vs:Int) (vT:ByteArray) (hp:pab pub) (hr:pab vr) (hs:pab vs) (ht:vT.size≤140737488355000) (w:World) (htab:Tabs w) :
 Calls Tryz.prog 90 #[.agg M,.agg #[.int .i64 vw,.string vT,.int .i64 vr,.int .i64 vs]] w (MkB (decide (vw=id) && verB pub (bs vT) vr vs) w):=by
 obtain ⟨g,hg⟩:∃ g,w.heap.size=g:=⟨_,rfl⟩
 obtain ⟨w0,hw0⟩:∃ W,w.alloc (.cells M 103)=W:=⟨_,rfl⟩
 have r0:w0.heap[g]? =some (.cells M 103 (0,0)):=by rw [← hg,← hw0];exact heap_alloc_new _ _
 have u0:Upd [] [] w w0:=by rw [← hw0];exact (Upd.refl _ _).alloc _
 obtain ⟨gV,hgV⟩:∃ g,w0.heap.size=g:=⟨_,rfl⟩
 obtain ⟨w1,hw1⟩:∃ W,w0.alloc (.cells #[.int .i64 vw,.string vT,.int .i64 vr,.int .i64 vs] 48)=W:=⟨_,rfl⟩
 have r1:w1.heap[gV]? =some (.cells #[.int .i64 vw,.string vT,.int .i64 vr,.int .i64 vs] 48 (0,0)):=by rw [← hgV,← hw1];exact heap_alloc_new _ _
 have u1:Upd [] [] w0 w1:=by rw [← hw1];exact (Upd.refl _ _).alloc _
 have U1:=Lib.hid (u0.trans u1)
 have q0:=paa r0 u1
 have cI:=(cell_of_row _ g 26 _ _ _ q0).trans h.i
 have cP:=(cell_of_row _ g 28 _ _ _ q0).trans h.p
 have c0:=(cell_of_row _ gV 0 _ _ _ r1).trans (show _=some (Value.int .i64 vw) from rfl)
 have c1:=(cell_of_row _ gV 1 _ _ _ r1).trans (show _=some (Value.string vT) from rfl)
 have c2:=(cell_of_row _ gV 2 _ _ _ r1).trans (show _=some (Value.int .i64 vr) from rfl)
 have c3:=(cell_of_row _ gV 3 _ _ _ r1).trans (show _=some (Value.int .i64 vs) from rfl)
 have HV:=Lib.hid (pkS pub vT vr vs w1 hp hr hs ht (htab.upd U1.out))
 clear h r0 u0 r1 u1 q0 hp hr hs ht
 by_cases hid':vw=id
 · have hb:(vw == id)=true:=by rw [beq_iff_eq];exact hid'
   have HD:Hid (decide (vw=id)=true):=decide_eq_true hid'
   clear hid'
   go_enter Tryz.func90,Tryz.ntmps90
   go_wp2_with fail
   refine HV.out.mono ?_
   rintro e w2 ⟨b,HB,rfl,hq⟩
   have U2:=Lib.hid (U1.out.trans hq)
   clear hq HV
   go_wp2_with fail
   go_ret
   exact ⟨b,by show _=_;rw [HB.out,HD.out,Bool.true_and],rfl,U2.out⟩
 · have hb:(vw == id)=false:=by rw [beq_eq_false_iff_ne];exact hid'
   have HD:Hid (decide (vw=id)=false):=decide_eq_false hid'
   go_enter Tryz.func90,Tryz.ntmps90
   go_wp2_with fail
   go_ret
   exact ⟨false,by show _=_;rw [HD.out,Bool.false_and],rfl,U1.out⟩
theorem peQ (w:World):Calls Tryz.prog 88 #[.agg M] w (Mk (.bool true) w):=by
 go_enter Tryz.func88,Tryz.ntmps88
 go_wp2_with fail
 go_ret
 exact ⟨rfl,(Upd.refl _ _).alloc _⟩
set_option maxHeartbeats 2000000 in
theorem pjr (h:MtIs M aw aT ar as' bw bT br bs' low high F A B id pub) (hp:pab pub) (hr:pab ar) (hs:pab as') (ht:aT.size≤140737488355000) (w:World) (htab:Tabs w) :
 Calls Tryz.prog 89 #[.agg M] w (MkB (decide (aw=id) && verB pub (bs aT) ar as') w):=by
 obtain ⟨g,hg⟩:∃ g,w.heap.size=g:=⟨_,rfl⟩
 obtain ⟨w0,hw0⟩:∃ W,w.alloc (.cells M 103)=W:=⟨_,rfl⟩
 have r0:=Lib.hid (show w0.heap[g]? =some (.cells M 103 (0,0)) by rw [← hg,← hw0];exact heap_alloc_new _ _)
 have u0:=Lib.hid (show Upd [] [] w w0 by rw [← hw0];exact (Upd.refl _ _).alloc _)
 have c0:=(cell_of_row _ g 8 _ _ _ r0.out).trans h.a0
 have c1:=(cell_of_row _ g 9 _ _ _ r0.out).trans h.a1
 have c2:=(cell_of_row _ g 10 _ _ _ r0.out).trans h.a2
 have c3:=(cell_of_row _ g 11 _ _ _ r0.out).trans h.a3
 have HT:=Lib.hid (peb h aw ar as' aT hp hr hs ht w0 (htab.upd u0.out))
 have HI:=Lib.hid (pku h.sz)
 clear h
 go_enter Tryz.func89,Tryz.ntmps89
 go_wp2_with (first | (refine wpList_load_row rfl 103 _ rfl g rfl _ M _ _ r0.out Tryz.underlying103 rfl HI.out ?_))
 refine HT.out.mono ?_
 rintro e w1 ⟨b,HB,rfl,hq⟩
 have U1:=Lib.hid (u0.out.trans hq)
 clear hq HT
 go_wp2_with fail
 go_ret
 exact ⟨b,HB,rfl,U1.out⟩
end
theorem pbO {P:Program} {fn:Func} {p1 u1 p2 u2:Tmp} {ty1 ty2:TypeId} (h:fn.results=#[.cell p1 ty1,.tmp u1,.cell p2 ty2,.tmp u2]) (tmps:Array Value) (w:World) (g1 g2:Nat) (t1 t2:TypeId) (c1 c2:Array Value) (fr1 fr2:Nat × Nat) (d1 d2:TypeDesc)
 (hp1:tmps.getD p1 undef=.pointer (some ⟨g1,0,none⟩)) (hg1:w.heap[g1]? =some (.cells c1 t1 fr1)) (hu1:P.underlying ty1=some d1) (hd1:d1.isRow=true) (hi1:(P.info? ty1).map (·.size)=some c1.size)
 (hp2:tmps.getD p2 undef=.pointer (some ⟨g2,0,none⟩)) (hg2:w.heap[g2]? =some (.cells c2 t2 fr2)) (hu2:P.underlying ty2=some d2) (hd2:d2.isRow=true) (hi2:(P.info? ty2).map (·.size)=some c2.size) :
 (results fn tmps).run P w=.ok (.tuple #[.agg c1,tmps.getD u1 undef,.agg c2,tmps.getD u2 undef]) w:=by
 have hl1:(loadVar ty1 ⟨g1,0,none⟩).run P w=.ok (.agg c1) w:=by
  cases d1 with
  | struct fs=>exact run_loadVar_row w g1 t1 ty1 c1 fr1 _ hg1 hu1 rfl hi1
  | array n e=>exact run_loadVar_row w g1 t1 ty1 c1 fr1 _ hg1 hu1 rfl hi1
  | _=>cases hd1
 have hl2:(loadVar ty2 ⟨g2,0,none⟩).run P w=.ok (.agg c2) w:=by
  cases d2 with
  | struct fs=>exact run_loadVar_row w g2 t2 ty2 c2 fr2 _ hg2 hu2 rfl hi2
  | array n e=>exact run_loadVar_row w g2 t2 ty2 c2 fr2 _ hg2 hu2 rfl hi2
  | _=>cases hd2
 simp only [results,h]
 have hp1':tmps[p1]?.getD undef=.pointer (some ⟨g1,0,none⟩):=by rw [← hp1];simp
 have hp2':tmps[p2]?.getD undef=.pointer (some ⟨g2,0,none⟩):=by rw [← hp2];simp
 simp [Sem.run_bind,Result.andThen,hp1',hp2',asAddr,hl1,hl2]
def pdP (l:List UInt8) (ev:EvG) (ep x v c z:Int):Prop:=pan (preE ++ l) ev∧ev.k=5∧pab ep∧∃ r,bs ev.x=Lib.itoa ep ++ 32 :: r∧pfI r x v c z
def prJ (l:List UInt8) (w:World) (e:Ending) (w':World):Prop :=
 ∃ (EV:Array Value) (ep x v c z:Int) (ok:Bool),Hid ((Tryz.prog.info? 53).map (·.size)=some EV.size∧EV.all (·.oneCell')=true∧evZ.toArray.size=EV.size)∧Hid ((ok=true∧∃ ev,EV=ev.V.toArray∧pdP l ev ep x v c z)∨(ok=false∧∀ ev ep x v c z,¬ pdP l ev ep x v c z))∧e=.returned (.tuple #[.agg EV,.int .i64 ep,.agg #[.int .i64 x,.int .i64 v,.int .i64 c,.int .i64 z],.bool ok])∧Upd [] [] w w'
theorem pdQ (x v c z:Int):(#[.int .i64 x,.int .i64 v,.int .i64 c,.int .i64 z]:Array Value).all (·.oneCell')=true:=by simp [Value.oneCell']
theorem pbi {x v c z:Int} {W:World} {g:Nat} {PV:Array Value} (hP:PV=#[.int .i64 x,.int .i64 v,.int .i64 c,.int .i64 z]) (h:W.heap[g]? =some (.cells PV 40 (0,0))):(Instr.loadAt 40 (.pointer (some ⟨g,0,none⟩))).run Tryz.prog W=.ok (.agg PV) W:=by
 subst hP
 exact run_loadAt_mid W g 0 40 [.int .i64 x,.int .i64 v,.int .i64 c,.int .i64 z] _ (pbM (R:=#[.int .i64 x,.int .i64 v,.int .i64 c,.int .i64 z]) rfl h) Tryz.underlying40 rfl (pcb x v c z)
theorem paS {W:World} {g:Nat} {EV:Array Value} (hi:(Tryz.prog.info? 53).map (·.size)=some EV.size) (h:W.heap[g]? =some (.cells EV 53 (0,0))):(Instr.loadAt 53 (.pointer (some ⟨g,0,none⟩))).run Tryz.prog W=.ok (.agg EV) W :=
 run_loadAt_mid W g 0 53 EV.toList _ (pbM (by simp) h) Tryz.underlying53 rfl (by rw [Array.length_toList];exact hi)
set_option maxHeartbeats 8000000 in
theorem pfs (T:ByteArray) (hT:T.size≤900000) (w:World) (htab:Tabs w):Calls Tryz.prog 146 #[.string T] w (prJ (bs T) w):=by
 obtain ⟨gE,hgE⟩:∃ g,w.heap.size=g:=⟨_,rfl⟩
 obtain ⟨w0,hw0⟩:∃ W,w.alloc (.cells #[.int .i64 0,.int .i64 0,.int .i64 0,.int .i64 0,.int .i64 0,.string ⟨#[]⟩,.int .u8 0,.int .u8 0,.int .u8 0,.int .u8 0,.int .u8 0,.int .u8 0,.int .u8 0,.int .u8 0,.int .u8 0,.int .u8 0,.int .u8 0,.int .u8 0,.int .u8 0,.int .u8 0,.int .u8 0,.int .u8 0,.int .u8 0,.int .u8 0,.int .u8 0,.int .u8 0,.int .u8 0,.int .u8 0,.int .u8 0,.int .u8 0,.int .u8 0,.int .u8 0,.int .u8 0,.int .u8 0,.int .u8 0,.int .u8 0,.int .u8 0,.int .u8 0,.int .i64 0,.int .i64 0] 53)=W:=⟨_,rfl⟩
 have r0:w0.heap[gE]? =some (.cells evZ.toArray 53 (0,0)):=by rw [← hgE,← hw0,paz];exact heap_alloc_new _ _
 have u0:Upd [] [] w w0:=by rw [← hw0];exact (Upd.refl _ _).alloc _
 obtain ⟨gQ,hgQ⟩:∃ g,w0.heap.size=g:=⟨_,rfl⟩
 obtain ⟨w1,hw1⟩:∃ W,w0.alloc (.cells #[.int .i64 0,.int .i64 0,.int .i64 0,.int .i64 0] 40)=W:=⟨_,rfl⟩
 have r1:w1.heap[gQ]? =some (.cells ptZ 40 (0,0)):=by rw [← hgQ,← hw1];exact heap_alloc_new _ _
 have u1:Upd [] [] w0 w1:=by rw [← hw1];exact (Upd.refl _ _).alloc _
 have HNE:Hid (gE≠gQ):=by have:=pag r0;show _≠_;omega
 have HGE:Hid (w.heap.size≤gE):=Nat.le_of_eq hgE
 have HGQ:Hid (w.heap.size≤gQ):=by have:=u0.size;show _≤_;omega
 have RE1:=Lib.hid (paa r0 u1)
 have RQ1:=Lib.hid r1
 have U1:=Lib.hid (u0.trans u1)
 have HEV:=Lib.hid (ph1 T (by omega) w1 (htab.upd U1.out))
 have HL:Hid ((preE ++ bs T).length≤1000000000):=by show _≤_;rw [List.length_append,pac];have:preE.length=4:=rfl;omega
 have HL2:Hid ((preE ++ bs T).length≤1000000):=by show _≤_;rw [List.length_append,pac];have:preE.length=4:=rfl;omega
 clear r0 u0 r1 u1 hT
 go_enter Tryz.func146,Tryz.ntmps146
 go_wp2_with fail
 refine HEV.out.mono ?_
 rintro e w2 ⟨EV,b,HE,rfl,hq⟩
 have HEI:=Lib.hid HE.out.info.1
 have HEO:=Lib.hid HE.out.info.2.1
 have HES:=Lib.hid HE.out.info.2.2
 have RE2:=Lib.hid (paa RE1.out hq)
 have RQ2:=Lib.hid (paa RQ1.out hq)
 have U2:=Lib.hid (U1.out.trans hq)
 obtain ⟨w3,hw3⟩:∃ W,w2.setRow gE EV=W:=⟨_,rfl⟩
 have RE3:Hid (w3.heap[gE]? =some (.cells EV 53 (0,0))):=by show _=_;rw [← hw3];exact setRow_heap _ _ _ _ _ _ RE2.out
 have RQ3:Hid (w3.heap[gQ]? =some (.cells ptZ 40 (0,0))):=by show _=_;rw [← hw3];exact pal RQ2.out HNE.out.symm _
 have U3:Hid (Upd [] [] w w3):=by show Upd _ _ _ _;rw [← hw3];exact U2.out.setRowNew HGE.out _
 have HW3:=Lib.hid hw3
 clear hq HEV RE1 RQ1 hw3 RQ2 U2 U1 hgE hgQ hw0 hw1
 go_upto_region 2 with (first | (refine wpList_store_rowAs rfl 53 _ _ rfl gE EV rfl rfl _ _ RE2.out HEI.out HES.out HEO.out w3 HW3.out ?_))
 cases b with
 | false =>
  have HNO:Hid (∀ ev ep x v c z,¬ pdP (bs T) ev ep x v c z):=fun ev ep x v c z h=>by
   rcases HE.out with ⟨h1,_⟩ | ⟨_,hn,_⟩
   · cases h1
   · exact hn ev h.1
  obtain ⟨PV,hPV⟩:∃ PV:Array Value,PV=#[.int .i64 0,.int .i64 0,.int .i64 0,.int .i64 0]:=⟨_,rfl⟩
  have HPV:=Lib.hid hPV
  have HPI:Hid ((Tryz.prog.info? 40).map (·.size)=some PV.size):=by rw [hPV];exact pcb _ _ _ _
  have HPO:Hid (PV.all (·.oneCell')=true):=by rw [hPV];exact pdQ _ _ _ _
  have RQ4:Hid (w3.heap[gQ]? =some (.cells PV 40 (0,0))):=by show _=_;rw [hPV];exact RQ3.out
  clear hPV HE RE2 HW3
  have RE_0:=Lib.hid (paa RE3.out (show Upd [] [] w3 w3.drew from (Upd.refl _ _).drew))
  have RQ_0:=Lib.hid (paa RQ4.out (show Upd [] [] w3 w3.drew from (Upd.refl _ _).drew))
  have UU_0:=Lib.hid (U3.out.trans (show Upd [] [] w3 w3.drew from (Upd.refl _ _).drew))
  go_upto_region 3 with (fail)
  refine @_root_.id ((∀ W:World,Hid (W.heap[gE]? =some (.cells EV 53 (0,0)))→Hid (W.heap[gQ]? =some (.cells PV 40 (0,0)))→Hid (Upd [] [] w W)→(?pj1:World→Prop) W)→_) (fun hJ=>?mj1) ?jj1
  case mj1 =>
   refine wp_region_noPanic ?_
   refine wp_region_held_drew (S:=fun wp=>(Instr.loadAt 53 (.pointer (some ⟨gE,0,none⟩))).run Tryz.prog wp=.ok (.agg EV) wp∧(Instr.loadAt 40 (.pointer (some ⟨gQ,0,none⟩))).run Tryz.prog wp=.ok (.agg PV) wp) (by kernel_rfl) ?_ (fun hHeld=>?_)
   · exact ⟨paS HEI.out RE_0.out,pbi HPV.out RQ_0.out⟩
   refine tkL 0 hHeld EV (fun w hSw=>hSw.1) ?_
   refine tkL 1 hHeld PV (fun w hSw=>hSw.2) ?_
   refine tk1 2 fun K hK=>?_
   rw [if_pos (by rfl)];refine wp_store_row 53 _ _ rfl gE EV rfl rfl _ _ RE_0.out HEI.out rfl HEO.out ?_;obtain ⟨wv1,hwx⟩:∃ W':World,W'=w3.drew.setRow gE EV:=⟨_,rfl⟩;have RE_1:Hid (wv1.heap[gE]? =some (.cells EV 53 (0,0))):=(by show _=_;rw [hwx];exact setRow_heap _ _ _ _ _ _ RE_0.out);have RQ_1:Hid (wv1.heap[gQ]? =some (.cells PV 40 (0,0))):=(by show _=_;rw [hwx];exact pal RQ_0.out HNE.out.symm EV);have UU_1:Hid (Upd [] [] w wv1):=(by show Upd _ _ _ _;rw [hwx];exact UU_0.out.setRowNew HGE.out EV);rw [← hwx];clear hwx
   refine tkK hK (⟨paS HEI.out RE_1.out,pbi HPV.out RQ_1.out⟩) fun hHeld=>?_
   clear hK K
   refine tkY 3 hHeld ?_
   refine tk1 4 fun K hK=>?_
   rw [if_pos (by rfl)];refine wp_store_row 40 _ _ rfl gQ PV rfl rfl _ _ RQ_1.out HPI.out rfl HPO.out ?_;obtain ⟨wv2,hwx⟩:∃ W':World,W'=wv1.setRow gQ PV:=⟨_,rfl⟩;have RQ_2:Hid (wv2.heap[gQ]? =some (.cells PV 40 (0,0))):=(by show _=_;rw [hwx];exact setRow_heap _ _ _ _ _ _ RQ_1.out);have RE_2:Hid (wv2.heap[gE]? =some (.cells EV 53 (0,0))):=(by show _=_;rw [hwx];exact pal RE_1.out HNE.out PV);have UU_2:Hid (Upd [] [] w wv2):=(by show Upd _ _ _ _;rw [hwx];exact UU_1.out.setRowNew HGQ.out PV);rw [← hwx];clear hwx
   refine tkK hK (⟨paS HEI.out RE_2.out,pbi HPV.out RQ_2.out⟩) fun hHeld=>?_
   clear hK K
   refine tkY 5 hHeld ?_
   refine wpAnyH_done (by kernel_rfl) ?_ _
   refine NoPanic.normal ?_
   exact hJ wv2 RE_2 RQ_2 UU_2
  intro wZ REZ RQZ UZ
  clear RE_0 RQ_0 UU_0
  go_wp2_with fail
  refine bodyPost_ret (pbO rfl _ _ gE gQ _ _ EV PV _ _ _ _ rfl REZ.out Tryz.underlying53 rfl HEI.out rfl RQZ.out Tryz.underlying40 rfl HPI.out) rfl ?_
  rw [HPV.out]
  exact ⟨EV,0,_,_,_,_,false,Lib.hid (And.intro HEI.out (And.intro HEO.out HES.out)),.inr ⟨rfl,HNO.out⟩,rfl,UZ.out⟩
 | true =>
  obtain ⟨ev,hc,hEV⟩:∃ ev,pan (preE ++ bs T) ev∧EV=ev.V.toArray:=by
   rcases HE.out with ⟨_,h⟩ | ⟨h,_⟩
   · exact h
   · cases h
  have HC:=Lib.hid hc
  have HV:=Lib.hid hEV
  obtain ⟨k,hk⟩:∃ k,k=ev.k:=⟨_,rfl⟩
  obtain ⟨tx,htx⟩:∃ t,t=ev.x:=⟨_,rfl⟩
  have cK:w3.cell? ⟨gE,1,none⟩=some (.int .i64 k):=(cell_of_row _ gE 1 _ _ _ RE3.out).trans (by rw [hEV,hk];rfl)
  have cX:w3.cell? ⟨gE,5,none⟩=some (.string tx):=(cell_of_row _ gE 5 _ _ _ RE3.out).trans (by rw [hEV,htx];rfl)
  have HKT:=Lib.hid (And.intro hk htx)
  have HUN:Hid (∀ f,pan (preE ++ bs T) f→f=ev):=fun f hf=>pcn hf HC.out (by have:=hf.size;have:=HL2.out;omega) (by have:=HC.out.size;have:=HL2.out;omega)
  have htz:tx.size≤1000000:=by rw [htx];have:=hc.size;have:=HL2.out;omega
  obtain ⟨PV,hPV⟩:∃ PV:Array Value,PV=#[.int .i64 0,.int .i64 0,.int .i64 0,.int .i64 0]:=⟨_,rfl⟩
  have HPV:=Lib.hid hPV
  have HPI:Hid ((Tryz.prog.info? 40).map (·.size)=some PV.size):=by rw [hPV];exact pcb _ _ _ _
  have HPO:Hid (PV.all (·.oneCell')=true):=by rw [hPV];exact pdQ _ _ _ _
  have RQ4:Hid (w3.heap[gQ]? =some (.cells PV 40 (0,0))):=by show _=_;rw [hPV];exact RQ3.out
  clear hPV HE RE2 HW3 hc hEV hk htx
  by_cases h5:k=5
  case neg =>
   have HNO:Hid (∀ ev ep x v c z,¬ pdP (bs T) ev ep x v c z):=fun f ep x v c z h=>by
    rw [HUN.out f h.1] at h
    exact h5 (HKT.out.1.trans h.2.1)
   have RE_0:=Lib.hid (paa RE3.out (show Upd [] [] w3 w3.drew from (Upd.refl _ _).drew))
   have RQ_0:=Lib.hid (paa RQ4.out (show Upd [] [] w3 w3.drew from (Upd.refl _ _).drew))
   have UU_0:=Lib.hid (U3.out.trans (show Upd [] [] w3 w3.drew from (Upd.refl _ _).drew))
   go_upto_region 3 with (fail)
   refine @_root_.id ((∀ W:World,Hid (W.heap[gE]? =some (.cells EV 53 (0,0)))→Hid (W.heap[gQ]? =some (.cells PV 40 (0,0)))→Hid (Upd [] [] w W)→(?pj4:World→Prop) W)→_) (fun hJ=>?mj4) ?jj4
   case mj4 =>
    refine wp_region_noPanic ?_
    refine wp_region_held_drew (S:=fun wp=>(Instr.loadAt 53 (.pointer (some ⟨gE,0,none⟩))).run Tryz.prog wp=.ok (.agg EV) wp∧(Instr.loadAt 40 (.pointer (some ⟨gQ,0,none⟩))).run Tryz.prog wp=.ok (.agg PV) wp) (by kernel_rfl) ?_ (fun hHeld=>?_)
    · exact ⟨paS HEI.out RE_0.out,pbi HPV.out RQ_0.out⟩
    refine tkL 0 hHeld EV (fun w hSw=>hSw.1) ?_
    refine tkL 1 hHeld PV (fun w hSw=>hSw.2) ?_
    refine tk1 2 fun K hK=>?_
    rw [if_pos (by rfl)];refine wp_store_row 53 _ _ rfl gE EV rfl rfl _ _ RE_0.out HEI.out rfl HEO.out ?_;obtain ⟨wv1,hwx⟩:∃ W':World,W'=w3.drew.setRow gE EV:=⟨_,rfl⟩;have RE_1:Hid (wv1.heap[gE]? =some (.cells EV 53 (0,0))):=(by show _=_;rw [hwx];exact setRow_heap _ _ _ _ _ _ RE_0.out);have RQ_1:Hid (wv1.heap[gQ]? =some (.cells PV 40 (0,0))):=(by show _=_;rw [hwx];exact pal RQ_0.out HNE.out.symm EV);have UU_1:Hid (Upd [] [] w wv1):=(by show Upd _ _ _ _;rw [hwx];exact UU_0.out.setRowNew HGE.out EV);rw [← hwx];clear hwx
    refine tkK hK (⟨paS HEI.out RE_1.out,pbi HPV.out RQ_1.out⟩) fun hHeld=>?_
    clear hK K
    refine tkY 3 hHeld ?_
    refine tk1 4 fun K hK=>?_
    rw [if_pos (by rfl)];refine wp_store_row 40 _ _ rfl gQ PV rfl rfl _ _ RQ_1.out HPI.out rfl HPO.out ?_;obtain ⟨wv2,hwx⟩:∃ W':World,W'=wv1.setRow gQ PV:=⟨_,rfl⟩;have RQ_2:Hid (wv2.heap[gQ]? =some (.cells PV 40 (0,0))):=(by show _=_;rw [hwx];exact setRow_heap _ _ _ _ _ _ RQ_1.out);have RE_2:Hid (wv2.heap[gE]? =some (.cells EV 53 (0,0))):=(by show _=_;rw [hwx];exact pal RE_1.out HNE.out PV);have UU_2:Hid (Upd [] [] w wv2):=(by show Upd _ _ _ _;rw [hwx];exact UU_1.out.setRowNew HGQ.out PV);rw [← hwx];clear hwx
    refine tkK hK (⟨paS HEI.out RE_2.out,pbi HPV.out RQ_2.out⟩) fun hHeld=>?_
    clear hK K
    refine tkY 5 hHeld ?_
    refine wpAnyH_done (by kernel_rfl) ?_ _
    refine NoPanic.normal ?_
    exact hJ wv2 RE_2 RQ_2 UU_2
   intro wZ REZ RQZ UZ
   clear RE_0 RQ_0 UU_0
   go_wp2_with fail
   refine bodyPost_ret (pbO rfl _ _ gE gQ _ _ EV PV _ _ _ _ rfl REZ.out Tryz.underlying53 rfl HEI.out rfl RQZ.out Tryz.underlying40 rfl HPI.out) rfl ?_
   rw [HPV.out]
   exact ⟨EV,0,_,_,_,_,false,Lib.hid (And.intro HEI.out (And.intro HEO.out HES.out)),.inr ⟨rfl,HNO.out⟩,rfl,UZ.out⟩
  have HK5:=Lib.hid h5
  have HCT:=Lib.hid (pdn tx 32 w3 (by omega) (htab.upd U3.out))
  go_wp2_with fail
  refine HCT.out.mono ?_
  rintro e w4 ⟨l,r,q,HLL,HR,HQ,hl,hr,rfl,hq⟩
  have RE4:=Lib.hid (paa RE3.out hq)
  have RQ5:=Lib.hid (paa RQ4.out hq)
  have U4:=Lib.hid (U3.out.trans hq)
  have HLR:Hid (l.size≤1000000∧r.size≤1000000):=⟨by omega,by omega⟩
  clear hq HCT cK cX h5 hl hr htz RE3 RQ3 RQ4 U3
  cases q with
  | false =>
   have HNO:Hid (∀ ev ep x v c z,¬ pdP (bs T) ev ep x v c z):=fun f ep x v c z h=>by
    rw [HUN.out f h.1] at h
    obtain ⟨_,_,_,y,hy,_⟩:=h
    have e:=HQ.out
    rw [HKT.out.2,hy,pbf 32 _ _ (itoa_no32 _)] at e
    cases e
   have RE_0:=Lib.hid (paa RE4.out (show Upd [] [] w4 w4.drew from (Upd.refl _ _).drew))
   have RQ_0:=Lib.hid (paa RQ5.out (show Upd [] [] w4 w4.drew from (Upd.refl _ _).drew))
   have UU_0:=Lib.hid (U4.out.trans (show Upd [] [] w4 w4.drew from (Upd.refl _ _).drew))
   go_upto_region 6 with (fail)
   refine @_root_.id ((∀ W:World,Hid (W.heap[gE]? =some (.cells EV 53 (0,0)))→Hid (W.heap[gQ]? =some (.cells PV 40 (0,0)))→Hid (Upd [] [] w W)→(?pj7:World→Prop) W)→_) (fun hJ=>?mj7) ?jj7
   case mj7 =>
    refine wp_region_noPanic ?_
    refine wp_region_held_drew (S:=fun wp=>(Instr.loadAt 53 (.pointer (some ⟨gE,0,none⟩))).run Tryz.prog wp=.ok (.agg EV) wp∧(Instr.loadAt 40 (.pointer (some ⟨gQ,0,none⟩))).run Tryz.prog wp=.ok (.agg PV) wp) (by kernel_rfl) ?_ (fun hHeld=>?_)
    · exact ⟨paS HEI.out RE_0.out,pbi HPV.out RQ_0.out⟩
    refine tkL 0 hHeld EV (fun w hSw=>hSw.1) ?_
    refine tkL 1 hHeld PV (fun w hSw=>hSw.2) ?_
    refine tk1 2 fun K hK=>?_
    rw [if_pos (by rfl)];refine wp_store_row 53 _ _ rfl gE EV rfl rfl _ _ RE_0.out HEI.out rfl HEO.out ?_;obtain ⟨wv1,hwx⟩:∃ W':World,W'=w4.drew.setRow gE EV:=⟨_,rfl⟩;have RE_1:Hid (wv1.heap[gE]? =some (.cells EV 53 (0,0))):=(by show _=_;rw [hwx];exact setRow_heap _ _ _ _ _ _ RE_0.out);have RQ_1:Hid (wv1.heap[gQ]? =some (.cells PV 40 (0,0))):=(by show _=_;rw [hwx];exact pal RQ_0.out HNE.out.symm EV);have UU_1:Hid (Upd [] [] w wv1):=(by show Upd _ _ _ _;rw [hwx];exact UU_0.out.setRowNew HGE.out EV);rw [← hwx];clear hwx
    refine tkK hK (⟨paS HEI.out RE_1.out,pbi HPV.out RQ_1.out⟩) fun hHeld=>?_
    clear hK K
    refine tkY 3 hHeld ?_
    refine tk1 4 fun K hK=>?_
    rw [if_pos (by rfl)];refine wp_store_row 40 _ _ rfl gQ PV rfl rfl _ _ RQ_1.out HPI.out rfl HPO.out ?_;obtain ⟨wv2,hwx⟩:∃ W':World,W'=wv1.setRow gQ PV:=⟨_,rfl⟩;have RQ_2:Hid (wv2.heap[gQ]? =some (.cells PV 40 (0,0))):=(by show _=_;rw [hwx];exact setRow_heap _ _ _ _ _ _ RQ_1.out);have RE_2:Hid (wv2.heap[gE]? =some (.cells EV 53 (0,0))):=(by show _=_;rw [hwx];exact pal RE_1.out HNE.out PV);have UU_2:Hid (Upd [] [] w wv2):=(by show Upd _ _ _ _;rw [hwx];exact UU_1.out.setRowNew HGQ.out PV);rw [← hwx];clear hwx
    refine tkK hK (⟨paS HEI.out RE_2.out,pbi HPV.out RQ_2.out⟩) fun hHeld=>?_
    clear hK K
    refine tkY 5 hHeld ?_
    refine wpAnyH_done (by kernel_rfl) ?_ _
    refine NoPanic.normal ?_
    exact hJ wv2 RE_2 RQ_2 UU_2
   intro wZ REZ RQZ UZ
   clear RE_0 RQ_0 UU_0
   go_wp2_with fail
   refine bodyPost_ret (pbO rfl _ _ gE gQ _ _ EV PV _ _ _ _ rfl REZ.out Tryz.underlying53 rfl HEI.out rfl RQZ.out Tryz.underlying40 rfl HPI.out) rfl ?_
   rw [HPV.out]
   exact ⟨EV,0,_,_,_,_,false,Lib.hid (And.intro HEI.out (And.intro HEO.out HES.out)),.inr ⟨rfl,HNO.out⟩,rfl,UZ.out⟩
  | true =>
   have HCUT:Hid (Lib.cut (bs tx) [32]=(bs l,bs r,true)):=Prod.ext HLL.out.symm (Prod.ext HR.out.symm HQ.out.symm)
   have HSP:Hid (bs tx=bs l ++ 32 :: bs r):=pgY HCUT.out
   have HNM:=Lib.hid (peN l w4 (by have:=HLR.out;omega) (htab.upd U4.out))
   clear HLL HR HQ
   go_wp2_with fail
   refine HNM.out.mono ?_
   rintro e w5 ⟨ep,ok,HNK,hep,rfl,hq⟩
   have RE5:=Lib.hid (paa RE4.out hq)
   have RQ6:=Lib.hid (paa RQ5.out hq)
   have U5:=Lib.hid (U4.out.trans hq)
   have HEP:=Lib.hid hep
   clear hq HNM RE4 RQ5 U4 hep
   cases ok with
   | false =>
    have HNO:Hid (∀ ev ep x v c z,¬ pdP (bs T) ev ep x v c z):=fun f n x v c z h=>by
     rw [HUN.out f h.1] at h
     obtain ⟨_,_,hn,y,hy,_⟩:=h
     have e:=HCUT.out
     rw [HKT.out.2,hy,pbf 32 _ _ (itoa_no32 _)] at e
     injection e with e _
     exact HNK.out.2.2 rfl ⟨n,hn,e.symm⟩
    have RE_0:=Lib.hid (paa RE5.out (show Upd [] [] w5 w5.drew from (Upd.refl _ _).drew))
    have RQ_0:=Lib.hid (paa RQ6.out (show Upd [] [] w5 w5.drew from (Upd.refl _ _).drew))
    have UU_0:=Lib.hid (U5.out.trans (show Upd [] [] w5 w5.drew from (Upd.refl _ _).drew))
    go_upto_region 9 with (fail)
    refine @_root_.id ((∀ W:World,Hid (W.heap[gE]? =some (.cells EV 53 (0,0)))→Hid (W.heap[gQ]? =some (.cells PV 40 (0,0)))→Hid (Upd [] [] w W)→(?pj10:World→Prop) W)→_) (fun hJ=>?mj10) ?jj10
    case mj10 =>
     refine wp_region_noPanic ?_
     refine wp_region_held_drew (S:=fun wp=>(Instr.loadAt 53 (.pointer (some ⟨gE,0,none⟩))).run Tryz.prog wp=.ok (.agg EV) wp∧(Instr.loadAt 40 (.pointer (some ⟨gQ,0,none⟩))).run Tryz.prog wp=.ok (.agg PV) wp) (by kernel_rfl) ?_ (fun hHeld=>?_)
     · exact ⟨paS HEI.out RE_0.out,pbi HPV.out RQ_0.out⟩
     refine tkL 0 hHeld EV (fun w hSw=>hSw.1) ?_
     refine tkL 1 hHeld PV (fun w hSw=>hSw.2) ?_
     refine tk1 2 fun K hK=>?_
     rw [if_pos (by rfl)];refine wp_store_row 53 _ _ rfl gE EV rfl rfl _ _ RE_0.out HEI.out rfl HEO.out ?_;obtain ⟨wv1,hwx⟩:∃ W':World,W'=w5.drew.setRow gE EV:=⟨_,rfl⟩;have RE_1:Hid (wv1.heap[gE]? =some (.cells EV 53 (0,0))):=(by show _=_;rw [hwx];exact setRow_heap _ _ _ _ _ _ RE_0.out);have RQ_1:Hid (wv1.heap[gQ]? =some (.cells PV 40 (0,0))):=(by show _=_;rw [hwx];exact pal RQ_0.out HNE.out.symm EV);have UU_1:Hid (Upd [] [] w wv1):=(by show Upd _ _ _ _;rw [hwx];exact UU_0.out.setRowNew HGE.out EV);rw [← hwx];clear hwx
     refine tkK hK (⟨paS HEI.out RE_1.out,pbi HPV.out RQ_1.out⟩) fun hHeld=>?_
     clear hK K
     refine tkY 3 hHeld ?_
     refine tk1 4 fun K hK=>?_
     rw [if_pos (by rfl)];refine wp_store_row 40 _ _ rfl gQ PV rfl rfl _ _ RQ_1.out HPI.out rfl HPO.out ?_;obtain ⟨wv2,hwx⟩:∃ W':World,W'=wv1.setRow gQ PV:=⟨_,rfl⟩;have RQ_2:Hid (wv2.heap[gQ]? =some (.cells PV 40 (0,0))):=(by show _=_;rw [hwx];exact setRow_heap _ _ _ _ _ _ RQ_1.out);have RE_2:Hid (wv2.heap[gE]? =some (.cells EV 53 (0,0))):=(by show _=_;rw [hwx];exact pal RE_1.out HNE.out PV);have UU_2:Hid (Upd [] [] w wv2):=(by show Upd _ _ _ _;rw [hwx];exact UU_1.out.setRowNew HGQ.out PV);rw [← hwx];clear hwx
     refine tkK hK (⟨paS HEI.out RE_2.out,pbi HPV.out RQ_2.out⟩) fun hHeld=>?_
     clear hK K
     refine tkY 5 hHeld ?_
     refine wpAnyH_done (by kernel_rfl) ?_ _
     refine NoPanic.normal ?_
     exact hJ wv2 RE_2 RQ_2 UU_2
    intro wZ REZ RQZ UZ
    clear RE_0 RQ_0 UU_0
    go_wp2_with fail
    refine bodyPost_ret (pbO rfl _ _ gE gQ _ _ EV PV _ _ _ _ rfl REZ.out Tryz.underlying53 rfl HEI.out rfl RQZ.out Tryz.underlying40 rfl HPI.out) rfl ?_
    rw [HPV.out]
    exact ⟨EV,0,_,_,_,_,false,Lib.hid (And.intro HEI.out (And.intro HEO.out HES.out)),.inr ⟨rfl,HNO.out⟩,rfl,UZ.out⟩
   | true =>
    have HNB:Hid (bs l=Lib.itoa ep):=HNK.out.2.1 rfl
    have HBR:=Lib.hid (plq r HLR.out.2 w5 (htab.upd U5.out))
    clear HNK
    go_wp2_with fail
    refine HBR.out.mono ?_
    rintro e w6 ⟨x,v,c,z,ok3,HPR,rfl,hq⟩
    have RE6:=Lib.hid (paa RE5.out hq)
    have RQ7:=Lib.hid (paa RQ6.out hq)
    have U6:=Lib.hid (U5.out.trans hq)
    have HPZ:Hid (PV.size=4):=by show _=_;rw [HPV.out];rfl
    obtain ⟨QV,hQV⟩:∃ QV:Array Value,QV=#[.int .i64 x,.int .i64 v,.int .i64 c,.int .i64 z]:=⟨_,rfl⟩
    rw [← hQV]
    obtain ⟨w7,hw7⟩:∃ W,w6.setRow gQ QV=W:=⟨_,rfl⟩
    have RQ8:Hid (w7.heap[gQ]? =some (.cells QV 40 (0,0))):=by show _=_;rw [← hw7];exact setRow_heap _ _ _ _ _ _ RQ7.out
    have RE7:Hid (w7.heap[gE]? =some (.cells EV 53 (0,0))):=by show _=_;rw [← hw7];exact pal RE6.out HNE.out _
    have U7:Hid (Upd [] [] w w7):=by show Upd _ _ _ _;rw [← hw7];exact U6.out.setRowNew HGQ.out _
    have HW7:=Lib.hid hw7
    have HQZ:Hid (PV.size=QV.size):=by show _=_;rw [HPZ.out,hQV];rfl
    have HQV:=Lib.hid hQV
    have HQI:Hid ((Tryz.prog.info? 40).map (·.size)=some QV.size):=by rw [hQV];exact pcb _ _ _ _
    have HQO:Hid (QV.all (·.oneCell')=true):=by rw [hQV];exact pdQ _ _ _ _
    clear hq HBR RE5 RQ6 U5 hQV hw7
    go_wp2_with (first | (refine wpList_store_rowAs rfl 40 _ _ rfl gQ QV rfl rfl _ _ RQ7.out HQI.out HQZ.out HQO.out w7 HW7.out ?_))
    clear RQ7 HW7 HQZ HPV HPI HPO HPZ RE6 U6
    have HFIN:Hid ((ok3=true∧∃ ev,EV=ev.V.toArray∧pdP (bs T) ev ep x v c z)∨(ok3=false∧∀ ev ep x v c z,¬ pdP (bs T) ev ep x v c z)):=by
     rcases HPR.out with ⟨h,hp⟩ | ⟨h,hp,_⟩
     · refine .inl ⟨h,ev,HV.out,HC.out,HKT.out.1.symm.trans HK5.out,HEP.out,bs r,?_,hp⟩
       rw [← HKT.out.2,HSP.out,HNB.out]
     · refine .inr ⟨h,fun f n x v c z hf=>?_⟩
       rw [HUN.out f hf.1] at hf
       obtain ⟨_,_,hn,y,hy,hpp⟩:=hf
       have e:=HCUT.out
       rw [HKT.out.2,hy,pbf 32 _ _ (itoa_no32 _)] at e
       injection e with _ e
       injection e with e _
       exact hp x v c z (e ▸ hpp)
    obtain ⟨PV,hPQ⟩:∃ PV,PV=QV:=⟨_,rfl⟩
    subst hPQ
    have HPV:=HQV
    have HPI:=HQI
    have HPO:=HQO
    have RE_0:=Lib.hid (paa RE7.out (show Upd [] [] w7 w7.drew from (Upd.refl _ _).drew))
    have RQ_0:=Lib.hid (paa RQ8.out (show Upd [] [] w7 w7.drew from (Upd.refl _ _).drew))
    have UU_0:=Lib.hid (U7.out.trans (show Upd [] [] w7 w7.drew from (Upd.refl _ _).drew))
    go_upto_region 11 with (fail)
    refine @_root_.id ((∀ W:World,Hid (W.heap[gE]? =some (.cells EV 53 (0,0)))→Hid (W.heap[gQ]? =some (.cells PV 40 (0,0)))→Hid (Upd [] [] w W)→(?pj13:World→Prop) W)→_) (fun hJ=>?mj13) ?jj13
    case mj13 =>
     refine wp_region_noPanic ?_
     refine wp_region_held_drew (S:=fun wp=>(Instr.loadAt 53 (.pointer (some ⟨gE,0,none⟩))).run Tryz.prog wp=.ok (.agg EV) wp∧(Instr.loadAt 40 (.pointer (some ⟨gQ,0,none⟩))).run Tryz.prog wp=.ok (.agg PV) wp) (by kernel_rfl) ?_ (fun hHeld=>?_)
     · exact ⟨paS HEI.out RE_0.out,pbi HPV.out RQ_0.out⟩
     refine tkL 0 hHeld EV (fun w hSw=>hSw.1) ?_
     refine tkY 1 hHeld ?_
     refine tkL 2 hHeld PV (fun w hSw=>hSw.2) ?_
     refine tkY 3 hHeld ?_
     refine tk1 4 fun K hK=>?_
     rw [if_pos (by rfl)];refine wp_store_row 53 _ _ rfl gE EV rfl rfl _ _ RE_0.out HEI.out rfl HEO.out ?_;obtain ⟨wv1,hwx⟩:∃ W':World,W'=w7.drew.setRow gE EV:=⟨_,rfl⟩;have RE_1:Hid (wv1.heap[gE]? =some (.cells EV 53 (0,0))):=(by show _=_;rw [hwx];exact setRow_heap _ _ _ _ _ _ RE_0.out);have RQ_1:Hid (wv1.heap[gQ]? =some (.cells PV 40 (0,0))):=(by show _=_;rw [hwx];exact pal RQ_0.out HNE.out.symm EV);have UU_1:Hid (Upd [] [] w wv1):=(by show Upd _ _ _ _;rw [hwx];exact UU_0.out.setRowNew HGE.out EV);rw [← hwx];clear hwx
     refine tkK hK (⟨paS HEI.out RE_1.out,pbi HPV.out RQ_1.out⟩) fun hHeld=>?_
     clear hK K
     refine tkY 5 hHeld ?_
     refine tk1 6 fun K hK=>?_
     rw [if_pos (by rfl)];refine wp_store_row 40 _ _ rfl gQ PV rfl rfl _ _ RQ_1.out HPI.out rfl HPO.out ?_;obtain ⟨wv2,hwx⟩:∃ W':World,W'=wv1.setRow gQ PV:=⟨_,rfl⟩;have RQ_2:Hid (wv2.heap[gQ]? =some (.cells PV 40 (0,0))):=(by show _=_;rw [hwx];exact setRow_heap _ _ _ _ _ _ RQ_1.out);have RE_2:Hid (wv2.heap[gE]? =some (.cells EV 53 (0,0))):=(by show _=_;rw [hwx];exact pal RE_1.out HNE.out PV);have UU_2:Hid (Upd [] [] w wv2):=(by show Upd _ _ _ _;rw [hwx];exact UU_1.out.setRowNew HGQ.out PV);rw [← hwx];clear hwx
     refine tkK hK (⟨paS HEI.out RE_2.out,pbi HPV.out RQ_2.out⟩) fun hHeld=>?_
     clear hK K
     refine tkY 7 hHeld ?_
     refine wpAnyH_done (by kernel_rfl) ?_ _
     refine NoPanic.normal ?_
     exact hJ wv2 RE_2 RQ_2 UU_2
    intro wZ REZ RQZ UZ
    clear RE_0 RQ_0 UU_0
    go_wp2_with fail
    refine bodyPost_ret (pbO rfl _ _ gE gQ _ _ EV PV _ _ _ _ rfl REZ.out Tryz.underlying53 rfl HEI.out rfl RQZ.out Tryz.underlying40 rfl HPI.out) rfl ?_
    rw [HPV.out]
    exact ⟨EV,ep,_,_,_,_,ok3,Lib.hid (And.intro HEI.out (And.intro HEO.out HES.out)),HFIN,rfl,UZ.out⟩
end Go.Proofs.YtheobkejohifaaaGreatDoor
