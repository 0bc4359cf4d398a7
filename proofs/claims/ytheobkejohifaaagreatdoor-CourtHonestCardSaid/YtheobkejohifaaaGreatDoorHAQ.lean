/- sortesref07.Deal. -/
import Derived.Test.YtheobkejohifaaaGreatDoorHAA
import Derived.Test.YtheobkejohifaaaGreatDoorHAO
import Derived.Test.YtheobkejohifaaaGreatDoorHAM
namespace Go.Proofs.YtheobkejohifaaaGreatDoor
open Go.RowKit
set_option maxRecDepth 100000
def dlZ:Array Value:=#[.slice none 0 0,.int .i64 0,.slice none 0 0]
def dlC (c:Value) (p:Int) (b:Value):Array Value:=#[c,.int .i64 p,b]
structure DlSt (w wr:World) (gD gR:Nat) (c b:Value) (p:Nat) (cs:List Nat) (bxs:List (List UInt8)):Prop where
 row:wr.heap[gD]? =some (.cells (dlC c (p:Int) b) 153 (0,0))
 res:wr.heap[gR]? =some (.cells dlZ 153 (0,0))
 com:wr.ownsRow 0 3 1 c cs.length (pah cs)
 box:paN wr b bxs
 up:Upd [] [] w wr
 base:w.heap.size≤gR∧gR<gD
 offc:∀ x,x∈foot c→gD<x
 offb:∀ x,x∈foot b→gD<x
 apart:∀ x,x∈foot c→x ∉ foot b
section
variable {w wr w1 w2 : World} {gD gR : Nat} {c b c' b' : Value} {p q : Nat} {cs : List Nat} {bxs : List (List UInt8)} {s : List UInt8}
theorem DlSt.quiet (h:DlSt w wr gD gR c b p cs bxs) (u:Upd [] [] wr w1):DlSt w w1 gD gR c b p cs bxs :=
 ⟨paa h.row u,paa h.res u,pai h.com (fun j hj=>u.block j (paf h.com j hj) (by simp)),h.box.same (fun j hj=>u.block j (h.box.lt j hj) (by simp)),h.up.trans u,h.base,h.offc,h.offb,h.apart⟩
theorem DlSt.lt (h:DlSt w wr gD gR c b p cs bxs):gD<wr.heap.size:=pag h.row
theorem DlSt.cells (h:DlSt w wr gD gR c b p cs bxs):wr.cell? ⟨gD,0,none⟩=some c∧wr.cell? ⟨gD,2,none⟩=some b:=⟨cell_of_row _ gD 0 _ _ _ h.row,cell_of_row _ gD 2 _ _ _ h.row⟩
theorem DlSt.grown (h:DlSt w wr gD gR c b p cs bxs) (u:Upd (foot c) (foot c') wr w1):w1.heap[gD]? =some (.cells (dlC c (p:Int) b) 153 (0,0)) :=
 (u.block gD h.lt (fun q=>Nat.lt_irrefl _ (h.offc gD q))).trans h.row
theorem DlSt.grownB (h:DlSt w wr gD gR c b p cs bxs) (u:Upd (foot b) (foot b') wr w1):w1.heap[gD]? =some (.cells (dlC c (p:Int) b) 153 (0,0)) :=
 (u.block gD h.lt (fun q=>Nat.lt_irrefl _ (h.offb gD q))).trans h.row
theorem DlSt.addCom (h:DlSt w wr gD gR c b p cs bxs) (u:Upd (foot c) (foot c') wr w1) (hr:w1.ownsRow 0 3 1 c' (cs.length+1) (pah (cs ++ [q]))):DlSt w (w1.setCell ⟨gD,0,none⟩ c') gD gR c' b p (cs ++ [q]) bxs:=by
 have hD:=h.lt
 have hoff:∀ x,x∈foot c'→gD<x:=fun x hx=>by
  rcases u.new x hx with e | e
  · exact h.offc x e
  · omega
 have hsame:∀ x,x≠gD→(w1.setCell ⟨gD,0,none⟩ c').heap[x]? =w1.heap[x]?:=fun x hx=>Below.heap_setCell _ _ _ _ hx
 have hRD:=h.base.2
 refine ⟨heap_setCell_same w1 gD 0 _ _ c' (h.grown u),?_,?_,?_,?_,h.base,hoff,h.offb,fun x hx hb=>?_⟩
 · rw [hsame gR (by omega),u.block gR (by omega) (fun q=>by have:=h.offc gR q;omega)]
   exact h.res
 · have e:(cs ++ [q]).length=cs.length+1:=by simp
   rw [e]
   exact pai hr (fun x hx=>hsame x (by have:=hoff x hx;omega))
 · exact h.box.same (fun x hx=>(hsame x (by have:=h.offb x hx;omega)).trans (u.block x (h.box.lt x hx) (fun hc=>h.apart x hc hx)))
 · exact (h.up.past2 u (fun x hx=>by have:=h.offc x hx;have:=h.base;omega)).setNew (p:=⟨gD,0,none⟩) (by show w.heap.size≤gD;have:=h.base;omega) _
 · rcases u.new x hx with e | e
   · exact h.apart x e hb
   · have:=h.box.lt x hb;omega
theorem DlSt.addBox (h:DlSt w wr gD gR c b p cs bxs) (u:Upd (foot b) (foot b') wr w1) (hr:paN w1 b' (bxs ++ [s])):DlSt w (w1.setCell ⟨gD,2,none⟩ b') gD gR c b' p cs (bxs ++ [s]):=by
 have hD:=h.lt
 have hoff:∀ x,x∈foot b'→gD<x:=fun x hx=>by
  rcases u.new x hx with e | e
  · exact h.offb x e
  · omega
 have hsame:∀ x,x≠gD→(w1.setCell ⟨gD,2,none⟩ b').heap[x]? =w1.heap[x]?:=fun x hx=>Below.heap_setCell _ _ _ _ hx
 have hRD:=h.base.2
 refine ⟨heap_setCell_same w1 gD 2 _ _ b' (h.grownB u),?_,?_,?_,?_,h.base,h.offc,hoff,fun x hx hb=>?_⟩
 · rw [hsame gR (by omega),u.block gR (by omega) (fun q=>by have:=h.offb gR q;omega)]
   exact h.res
 · exact pai h.com (fun x hx=>(hsame x (by have:=h.offc x hx;omega)).trans (u.block x (paf h.com x hx) (fun hc=>h.apart x hx hc)))
 · exact hr.same (fun x hx=>hsame x (by have:=hoff x hx;omega))
 · exact (h.up.past2 u (fun x hx=>by have:=h.offb x hx;have:=h.base;omega)).setNew (p:=⟨gD,2,none⟩) (by show w.heap.size≤gD;have:=h.base;omega) _
 · rcases u.new x hb with e | e
   · exact h.apart x hx e
   · have:=paf h.com x hx;omega
end
theorem pcm (c:Value) (p:Int) (b:Value):(Tryz.prog.info? 153).map (·.size)=some (dlC c p b).size:=by
 show _=some 3
 kernel_rfl
theorem ppV (p:Int):Tryz.prog.built 153 [(1,.int .i64 p)]=some (dlC (.slice none 0 0) p (.slice none 0 0)):=by kernel_rfl
def boxT (coefs keys:List Nat) (x k:Nat):List (List UInt8):=(List.range k).map fun i=>boxL (valN coefs (i+1)) (pP (keys.getD i 0) x) i
theorem pmY (coefs keys:List Nat) (x k:Nat):boxT coefs keys x (k+1)=boxT coefs keys x k ++ [boxL (valN coefs (k+1)) (pP (keys.getD k 0) x) k]:=by simp [boxT,List.range_succ]
theorem peK (coefs keys:List Nat) (x k:Nat):(boxT coefs keys x k).length=k:=by simp [boxT]
def pqQ (d:Dl) (w:World) (e:Ending) (w':World):Prop:=∃ c b:Value,Hid (w'.ownsRow 0 3 1 c d.coms.length (pah d.coms))∧Hid (paN w' b d.boxes)∧Hid (∀ x,x∈foot c∨x∈foot b→w.heap.size≤x)∧e=.returned (.tuple #[.agg (dlC c (d.point:Int) b),.bool true])∧Upd [] [] w w'
set_option maxHeartbeats 4000000 in
theorem pdM (cv kv:Value) (coefs keys:List Nat) (seed:ByteArray) (w:World) (hc:Sl w cv coefs) (hk:Sl w kv keys) (hcb:∀ x∈coefs,x<Qn) (hkb:∀ x∈keys,memN x) (l1:1≤coefs.length) (l2:coefs.length≤keys.length) (l3:keys.length≤60) (hs:seed.size≤1000000) :
 Calls Tryz.prog 108 #[cv,kv,.string seed] w (pqQ (pda coefs keys (bs seed)) w):=by
 obtain ⟨gR,hgR⟩:∃ g,w.heap.size=g:=⟨_,rfl⟩
 obtain ⟨w1,hw1⟩:∃ W,w.alloc (.cells dlZ 153)=W:=⟨_,rfl⟩
 have s1:=Lib.hid (show w1.heap[gR]? =some (.cells dlZ 153 (0,0)) by rw [← hgR,← hw1];exact heap_alloc_new _ _)
 have u1:=Lib.hid (show Upd [] [] w w1 by rw [← hw1];exact (Upd.refl _ _).alloc _)
 have HG:Hid (w.heap.size≤gR):=Nat.le_of_eq hgR
 have HMB:=Lib.hid (pem kv keys w1 (hk.upd u1.out) hkb (by omega))
 have HCS:=Lib.hid (hc.upd u1.out)
 have HKS:=Lib.hid (hk.upd u1.out)
 have HCB:=Lib.hid hcb
 have HKB:=Lib.hid hkb
 have hw1':w.alloc (.cells #[.slice none 0 0,.int .i64 0,.slice none 0 0] 153)=w1:=hw1
 obtain ⟨ca,cc,rfl,cc1,cc2⟩:=hc.form
 obtain ⟨ka,kc,rfl,kc1,kc2⟩:=hk.form
 obtain ⟨n,hn⟩:∃ n,n=coefs.length:=⟨_,rfl⟩
 obtain ⟨m,hm⟩:∃ m,m=keys.length:=⟨_,rfl⟩
 have HN:=Lib.hid hn
 have HM:=Lib.hid hm
 rw [← hn] at cc1 l1 l2 HCS
 rw [← hm] at kc1 l2 l3 HKS HMB
 rw [← hn,← hm]
 have h6:(ByteArray.mk #[112,111,105,110,116,47]).size=6:=rfl
 have hmn:¬ m<n:=by omega
 have hmn2:¬ (m:Int)<(n:Int):=by omega
 clear hc hk hcb hkb hn hm hw1
 go_enter Tryz.func108,Tryz.ntmps108
 go_wp2_with fail
 refine HMB.out.mono ?_
 rintro e w' ⟨rfl,rfl⟩
 clear HMB
 go_wp2_with fail
 go_loopw [7,9] (fun _ i wr=>∃ k:Nat,i=.int .i64 (k:Int)∧k≤n∧wr=w1) (fun _ i _=>n - (intOf i).toNat)
 case atStart=>exact ⟨0,rfl,Nat.zero_le _,(by first | trivial | rfl)⟩
 case round =>
  obtain ⟨k,rfl,hk,rfl⟩:=hrel
  by_cases hlt:k<n
  · obtain ⟨x,hx⟩:∃ x,coefs[k]? =some x:=⟨_,List.getElem?_eq_getElem (by rw [← HN.out];exact hlt)⟩
    obtain ⟨b,rfl,hcell⟩:=HCS.out.get hx
    have hxb:=HCB.out x (List.mem_of_getElem? hx)
    obtain ⟨z,hz⟩:∃ z:Int,z=(x:Int):=⟨_,rfl⟩
    have x0:(0:Int)≤z:=by omega
    have x1:z<1152921504606845789:=by unfold Qn at hxb;omega
    rw [← hz] at hcell
    have i0:(0:Int)≤(k:Int):=by omega
    have i1:(k:Int)<(n:Int):=by omega
    clear hx hxb hz
    go_wp2_with fail
    exact ⟨⟨k+1,by go_num,by omega,(by first | trivial | rfl)⟩,by simp [intOf];omega⟩
  · go_wp2_with fail
    refine (pbD _ wr (by simp [ByteArray.size_append];omega)).mono ?_
    rintro e w2 ⟨x,HX,hx,rfl,hu2⟩
    have U2:=Lib.hid (u1.out.trans hu2)
    have S2:=Lib.hid (paa s1.out hu2)
    have CS2:=Lib.hid (HCS.out.upd hu2)
    have KS2:=Lib.hid (HKS.out.upd hu2)
    clear hu2 u1 s1 HCS HKS
    go_wp2_with fail
    refine (pcJ 4 x _ w2 (by omega) (by omega) rfl).mono ?_
    rintro e w' ⟨p,HP,hp,rfl,rfl⟩
    obtain ⟨DV,hDV⟩:∃ DV,DV=dlC (.slice none 0 0) (p:Int) (.slice none 0 0):=⟨_,rfl⟩
    have HB:Hid (Tryz.prog.built 153 [(1,.int .i64 (p:Int))]=some DV):=by show _=_;rw [hDV];exact ppV _
    have HI:Hid ((Tryz.prog.info? 153).map (·.size)=some DV.size):=by rw [hDV];exact pcm _ _ _
    have HZ:Hid (dlZ.size=DV.size):=by show _=_;rw [hDV];rfl
    have HO:Hid (DV.all (·.oneCell')=true):=by show _=_;rw [hDV];simp [dlC,Value.oneCell']
    obtain ⟨w3,Z3,W3,R3,hq3⟩:=paC w2 153 dlZ DV
    obtain ⟨gD,hgD⟩:∃ g,w2.heap.size=g:=⟨_,rfl⟩
    rw [hgD] at Z3 W3 R3
    have HD3:Hid (DlSt w w3 gD gR (.slice none 0 0) (.slice none 0 0) p [] []) :=
     ⟨by rw [← hDV];exact R3.out,paa S2.out hq3,World.ownsRow_nil _ _ _ _,pcV _,U2.out.trans hq3,⟨HG.out,by rw [← hgD];exact pag S2.out⟩,(fun x h=>by cases h),(fun x h=>by cases h),(fun x h=>by cases h)⟩
    have HGD:Hid (w2.heap.size=gD):=hgD
    have HQ3:=Lib.hid hq3
    have hz3:(w2.alloc (.cells dlZ 153)).setRow gD DV=w3:=W3.out
    clear hDV hq3 R3 S2 U2 W3
    go_wp2_with (first | (refine wpList_buildTo rfl 153 _ rfl _ rfl DV (Eq.trans (congrArg (fun z=>Tryz.prog.built 153 z) (by kernel_rfl)) HB.out) ?_) | (refine wpList_store_rowAs rfl 153 _ _ rfl gD DV rfl rfl _ _ Z3.out HI.out HZ.out HO.out w3 hz3 ?_))
    clear Z3 HB HI HZ HO hz3 hgD
    go_loopw [12] (fun i wr=>∃ (k:Nat) (c:Value),i=.int .i64 (k:Int)∧k≤n∧Hid (DlSt w wr gD gR c (.slice none 0 0) p ((coefs.map gP).take k) [])∧Hid (Upd [] [] w2 wr)) (fun i _=>n - (intOf i).toNat)
    case atStart=>exact ⟨0,.slice none 0 0,rfl,Nat.zero_le _,HD3.out,HQ3.out⟩
    case round =>
     obtain ⟨j,c,rfl,hj,HDS,HU⟩:=hrel
     by_cases hlj:j<n
     · obtain ⟨a,ha⟩:∃ a,coefs[j]? =some a:=⟨_,List.getElem?_eq_getElem (by rw [← HN.out];exact hlj)⟩
       obtain ⟨b,rfl,hcell⟩:=CS2.out.get ha
       have hab:=HCB.out a (List.mem_of_getElem? ha)
       have hab2:a≤9223372036854775807:=by unfold Qn at hab;omega
       have hbw:b<w2.heap.size:=World.block_lt_of_cell? _ _ hcell
       have hbg:b<gD:=by have:=HGD.out;omega
       have HCL:=Lib.hid hcell
       have HK:Hid (∀ W,Upd [] [] wr W→W.cell? ⟨b,j,none⟩=some (.int .i64 (a:Int))):=fun W u=>((HU.out.trans u).cell (p:=⟨b,j,none⟩) hbw (by simp)).trans HCL.out
       have HBG:=Lib.hid hbg
       have c3A:=HDS.out.cells.1
       have HTK:Hid ((coefs.map gP).take (j+1)=(coefs.map gP).take j ++ [gP a]):=by
        show _=_
        rw [List.take_add_one,List.getElem?_map,ha]
        rfl
       have HTL:Hid (((coefs.map gP).take j).length=j):=by show _=_;rw [List.length_take,List.length_map,← HN.out];omega
       have i0:(0:Int)≤(j:Int):=by omega
       have i1:(j:Int)<(n:Int):=by omega
       have ud0:Upd [] [] wr wr.drew:=(Upd.refl _ _).drew
       clear ha hcell hab hbg hbw
       go_upto_region 14 with (fail)
       refine @_root_.id ((∀ (q:Nat) (ao':Option Addr) (cap':Nat) (W:World),Hid (DlSt w W gD gR (.slice ao' (j+1) cap') (.slice none 0 0) p ((coefs.map gP).take (j+1)) []∧Upd [] [] w2 W)→(?pj1:Nat→Option Addr→Nat→World→Prop) q ao' cap' W)→_) (fun hJ=>?mj1) ?jj1
       case mj1 =>
        refine wp_region_noPanic ?_
        refine wp_region_held_drew (S:=fun wp=>wp.cell? ⟨b,j,none⟩=some (.int .i64 (a:Int))) (by kernel_rfl) ?_ (fun hHeld=>?_)
        · exact HK.out _ ud0
        refine tkY 0 hHeld ?_
        refine tkY 2 hHeld ?_
        refine tkY 3 hHeld ?_
        refine tkY 4 hHeld ?_
        refine tkY 5 hHeld ?_
        refine tkA [1,6] ?_
        refine tkC (fun K hK=>?_) ?_
        · go_simp
          refine tkK hK (HK.out _ ud0) fun hHeld=>?_
          clear hK K
          refine tk1 6 fun K hK=>?_
          go_simp;refine (pcJ 4 a _ _ (by omega) (by omega) rfl).mono ?_;rintro e wv1 ⟨q,HQ,hq,rfl,rfl⟩;obtain ⟨c',w',hrun,hown',hup'⟩:=pa2 wr.drew c ((coefs.map gP).take j) j q HTL.out (by have h:=HDS.out.com;rw [HTL.out] at h;exact pai h (fun _ _=>rfl)) (by omega);obtain ⟨ao',cap',rfl,hcp1,hcp2⟩:=paj hown';have HRN:=Lib.hid hrun;have hup2:Upd (foot c) (foot (.slice ao' (j+1) cap')) wr w':=⟨hup'.os,hup'.tape,hup'.output,hup'.size,hup'.block,hup'.new⟩;have hg0:=HDS.out.grown hup2;have k0:w'.cell? ⟨gD,0,none⟩=some c:=cell_of_row _ gD 0 _ _ _ hg0;have f0:w'.frozen? ⟨gD,0,none⟩=false:=frozen_of_row _ gD 0 _ _ hg0;have HKW:Hid (w'.cell? ⟨b,j,none⟩=some (.int .i64 (a:Int))):=(World.cell?_of_block (a:=⟨b,j,none⟩) (hup2.block b (Nat.lt_trans HBG.out HDS.out.lt) (fun hm=>by have:=HDS.out.offc b hm;have:=HBG.out;omega))).trans (HK.out wr (Upd.refl _ _));have HKX:Hid ((w'.setCell ⟨gD,0,none⟩ (.slice ao' (j+1) cap')).cell? ⟨b,j,none⟩=some (.int .i64 (a:Int))):=(World.cell?_setCell_other _ _ _ _ (fun e=>by have:=(Addr.mk.inj e).1;have:=HBG.out;omega)).trans HKW.out;have HFIN:Hid (DlSt w (w'.setCell ⟨gD,0,none⟩ (.slice ao' (j+1) cap')) gD gR (.slice ao' (j+1) cap') (.slice none 0 0) p ((coefs.map gP).take (j+1)) []∧Upd [] [] w2 (w'.setCell ⟨gD,0,none⟩ (.slice ao' (j+1) cap'))):=⟨(by rw [HTK.out];exact HDS.out.addCom (q:=gP a) hup2 (by rw [HTL.out];have e:gP a=q:=HQ.out.symm;rw [e];exact hown')),(HU.out.past2 hup2 (fun x hx=>by have:=HDS.out.offc x hx;have:=HGD.out;omega)).setNew (p:=⟨gD,0,none⟩) (by show w2.heap.size≤gD;exact Nat.le_of_eq HGD.out) _⟩;have c3B:(wr.alloc (.cells #[.int .i64 (q:Int)] 3)).cell? ⟨gD,0,none⟩=some c:=(((Upd.refl [] wr).alloc _).cell (p:=⟨gD,0,none⟩) HDS.out.lt (by simp)).trans c3A;clear hrun hown' hup' hup2 hg0;go_wp2_with fail
          refine tkK hK (HK.out _ ud0) fun hHeld=>?_
          clear hK K
          refine tk1 7 fun K hK=>?_
          go_simp
          refine tkK hK (HK.out _ (ud0.alloc _)) fun hHeld=>?_
          clear hK K
          refine tk1 8 fun K hK=>?_
          refine pav _ rfl _ _ _ _ rfl c (.slice (some ⟨wr.drew.heap.size,0,none⟩) 1 1) (.slice ao' (j+1) cap') w' rfl rfl HRN.out ?_
          refine tkK hK (HKW.out) fun hHeld=>?_
          clear hK K
          refine tkY 9 hHeld ?_
          refine tk1 10 fun K hK=>?_
          go_simp;obtain ⟨W2,hW2⟩:∃ W:World,W=w'.setCell ⟨gD,0,none⟩ (.slice ao' (j+1) cap'):=⟨_,rfl⟩;rw [← hW2] at HKX HFIN ⊢;clear hW2
          refine tkK hK (HKX.out) fun hHeld=>?_
          clear hK K
          refine wpAnyH_done (by kernel_rfl) ?_ _
          refine NoPanic.normal ?_
          exact hJ q ao' cap' W2 HFIN
        refine tkZ fun K hK=>?_
        go_simp;refine (pcJ 4 a _ _ (by omega) (by omega) rfl).mono ?_;rintro e wv1 ⟨q,HQ,hq,rfl,rfl⟩;obtain ⟨c',w',hrun,hown',hup'⟩:=pa2 wr.drew c ((coefs.map gP).take j) j q HTL.out (by have h:=HDS.out.com;rw [HTL.out] at h;exact pai h (fun _ _=>rfl)) (by omega);obtain ⟨ao',cap',rfl,hcp1,hcp2⟩:=paj hown';have HRN:=Lib.hid hrun;have hup2:Upd (foot c) (foot (.slice ao' (j+1) cap')) wr w':=⟨hup'.os,hup'.tape,hup'.output,hup'.size,hup'.block,hup'.new⟩;have hg0:=HDS.out.grown hup2;have k0:w'.cell? ⟨gD,0,none⟩=some c:=cell_of_row _ gD 0 _ _ _ hg0;have f0:w'.frozen? ⟨gD,0,none⟩=false:=frozen_of_row _ gD 0 _ _ hg0;have HKW:Hid (w'.cell? ⟨b,j,none⟩=some (.int .i64 (a:Int))):=(World.cell?_of_block (a:=⟨b,j,none⟩) (hup2.block b (Nat.lt_trans HBG.out HDS.out.lt) (fun hm=>by have:=HDS.out.offc b hm;have:=HBG.out;omega))).trans (HK.out wr (Upd.refl _ _));have HKX:Hid ((w'.setCell ⟨gD,0,none⟩ (.slice ao' (j+1) cap')).cell? ⟨b,j,none⟩=some (.int .i64 (a:Int))):=(World.cell?_setCell_other _ _ _ _ (fun e=>by have:=(Addr.mk.inj e).1;have:=HBG.out;omega)).trans HKW.out;have HFIN:Hid (DlSt w (w'.setCell ⟨gD,0,none⟩ (.slice ao' (j+1) cap')) gD gR (.slice ao' (j+1) cap') (.slice none 0 0) p ((coefs.map gP).take (j+1)) []∧Upd [] [] w2 (w'.setCell ⟨gD,0,none⟩ (.slice ao' (j+1) cap'))):=⟨(by rw [HTK.out];exact HDS.out.addCom (q:=gP a) hup2 (by rw [HTL.out];have e:gP a=q:=HQ.out.symm;rw [e];exact hown')),(HU.out.past2 hup2 (fun x hx=>by have:=HDS.out.offc x hx;have:=HGD.out;omega)).setNew (p:=⟨gD,0,none⟩) (by show w2.heap.size≤gD;exact Nat.le_of_eq HGD.out) _⟩;have c3B:(wr.alloc (.cells #[.int .i64 (q:Int)] 3)).cell? ⟨gD,0,none⟩=some c:=(((Upd.refl [] wr).alloc _).cell (p:=⟨gD,0,none⟩) HDS.out.lt (by simp)).trans c3A;clear hrun hown' hup' hup2 hg0;go_wp2_with fail
        refine tkK hK (HK.out _ ud0) fun hHeld=>?_
        clear hK K
        refine tkA [1,7] ?_
        refine tkC (fun K hK=>?_) ?_
        · go_simp
          refine tkK hK (HK.out _ ud0) fun hHeld=>?_
          clear hK K
          refine tk1 7 fun K hK=>?_
          go_simp
          refine tkK hK (HK.out _ (ud0.alloc _)) fun hHeld=>?_
          clear hK K
          refine tk1 8 fun K hK=>?_
          refine pav _ rfl _ _ _ _ rfl c (.slice (some ⟨wr.drew.heap.size,0,none⟩) 1 1) (.slice ao' (j+1) cap') w' rfl rfl HRN.out ?_
          refine tkK hK (HKW.out) fun hHeld=>?_
          clear hK K
          refine tkY 9 hHeld ?_
          refine tk1 10 fun K hK=>?_
          go_simp;obtain ⟨W2,hW2⟩:∃ W:World,W=w'.setCell ⟨gD,0,none⟩ (.slice ao' (j+1) cap'):=⟨_,rfl⟩;rw [← hW2] at HKX HFIN ⊢;clear hW2
          refine tkK hK (HKX.out) fun hHeld=>?_
          clear hK K
          refine wpAnyH_done (by kernel_rfl) ?_ _
          refine NoPanic.normal ?_
          exact hJ q ao' cap' W2 HFIN
        refine tkZ fun K hK=>?_
        go_simp
        refine tkK hK (HK.out _ (ud0.alloc _)) fun hHeld=>?_
        clear hK K
        refine tk1 1 fun K hK=>?_
        go_simp
        refine tkK hK (HK.out _ (ud0.alloc _)) fun hHeld=>?_
        clear hK K
        refine tk1 8 fun K hK=>?_
        refine pav _ rfl _ _ _ _ rfl c (.slice (some ⟨wr.drew.heap.size,0,none⟩) 1 1) (.slice ao' (j+1) cap') w' rfl rfl HRN.out ?_
        refine tkK hK (HKW.out) fun hHeld=>?_
        clear hK K
        refine tkY 9 hHeld ?_
        refine tk1 10 fun K hK=>?_
        go_simp;obtain ⟨W2,hW2⟩:∃ W:World,W=w'.setCell ⟨gD,0,none⟩ (.slice ao' (j+1) cap'):=⟨_,rfl⟩;rw [← hW2] at HKX HFIN ⊢;clear hW2
        refine tkK hK (HKX.out) fun hHeld=>?_
        clear hK K
        refine wpAnyH_done (by kernel_rfl) ?_ _
        refine NoPanic.normal ?_
        exact hJ q ao' cap' W2 HFIN
       intro q ao' cap' W HJ
       go_wp2_with fail
       exact ⟨⟨j+1,_,by go_num,by omega,HJ.out.1,HJ.out.2⟩,(by first | (simp [intOf];done) | (simp [intOf];omega))⟩
     · obtain rfl:j=n:=by omega
       have HDS3:Hid (DlSt w wr gD gR c (.slice none 0 0) p (coefs.map gP) (boxT coefs keys x 0)):=by
        have h:=HDS.out
        rw [List.take_of_length_le (by rw [List.length_map,← HN.out];omega)] at h
        exact h
       obtain ⟨w4,hw4⟩:∃ W,W=wr:=⟨_,rfl⟩
       clear HDS HD3
       go_wp2_with fail
       go_loopw [13] (fun i wr=>∃ (k:Nat) (b:Value),i=.int .i64 (k:Int)∧k≤m∧Hid (DlSt w wr gD gR c b p (coefs.map gP) (boxT coefs keys x k))∧Hid (Upd [] [] w2 wr)) (fun i _=>m - (intOf i).toNat)
       case atStart=>exact ⟨0,_,rfl,Nat.zero_le _,HDS3.out,HU.out⟩
       case round =>
        obtain ⟨i,b,rfl,hi,HDS,HV⟩:=hrel
        by_cases hlm:i<m
        · obtain ⟨a,ha⟩:∃ a,keys[i]? =some a:=⟨_,List.getElem?_eq_getElem (by rw [← HM.out];exact hlm)⟩
          obtain ⟨kb,rfl,hcell⟩:=KS2.out.get ha
          have hab:=(HKB.out a (List.mem_of_getElem? ha)).2.1
          have hab2:a≤9223372036854775807:=by unfold Pn at hab;omega
          have hbw:kb<w2.heap.size:=World.block_lt_of_cell? _ _ hcell
          have hbg:kb<gD:=by have:=HGD.out;omega
          have HCL:=Lib.hid hcell
          have HK:Hid (∀ W,Upd [] [] wr W→W.cell? ⟨kb,i,none⟩=some (.int .i64 (a:Int))):=fun W u=>((HV.out.trans u).cell (p:=⟨kb,i,none⟩) hbw (by simp)).trans HCL.out
          have HKD:Hid (∀ W,Upd [] [] wr W→W.cell? ⟨gD,2,none⟩=some b):=fun W u=>(u.cell (p:=⟨gD,2,none⟩) HDS.out.lt (by simp)).trans HDS.out.cells.2
          have HBG:=Lib.hid hbg
          have HCSV:Hid (∀ W,Upd [] [] wr W→Sl W (.slice ca j cc) coefs):=fun W u=>CS2.out.upd (HV.out.trans u)
          obtain ⟨i9,hi9⟩:∃ i9,i9=i+1:=⟨_,rfl⟩
          have e1:IntKind.i64.wrap ((i:Int)+1)=(i9:Int):=by rw [pap (by omega) (by omega)];omega
          have HNX:Hid (boxT coefs keys x (i+1)=boxT coefs keys x i ++ [boxL (valN coefs i9) (pP a x) i]):=by
           show _=_
           rw [pmY,hi9,List.getD_eq_getElem?_getD,ha]
           rfl
          have HI9:=Lib.hid hi9
          have hi9b:i9<9223372036854775808:=by omega
          have hx9:x≤9223372036854775807:=by omega
          have i0:(0:Int)≤(i:Int):=by omega
          have i1:(i:Int)<(m:Int):=by omega
          have HCB2:Hid (∀ c∈coefs,c<9223372036854775808):=fun c hc=>by have:=HCB.out c hc;unfold Qn at this;omega
          have HLN:Hid (coefs.length≤1000):=by show _≤_;rw [← HN.out];omega
          have ud0:Upd [] [] wr wr.drew:=(Upd.refl _ _).drew
          clear ha hcell hab hbg hbw hi9 HDS3 HU
          go_upto_region 18 with (fail)
          refine @_root_.id ((∀ (y z:Nat) (bx:ByteArray) (ao':Option Addr) (l9 cap' sz:Nat) (W:World),Hid (DlSt w W gD gR c (.slice ao' l9 cap') p (coefs.map gP) (boxT coefs keys x (i+1))∧Upd [] [] w2 W)→(?pj10:Nat→Nat→ByteArray→Option Addr→Nat→Nat→Nat→World→Prop) y z bx ao' l9 cap' sz W)→_) (fun hJ=>?mj10) ?jj10
          case mj10 =>
           refine wp_region_noPanic ?_
           refine wp_region_held_drew (S:=fun wp=>wp.cell? ⟨kb,i,none⟩=some (.int .i64 (a:Int))) (by kernel_rfl) ?_ (fun hHeld=>?_)
           · exact HK.out _ ud0
           refine tkY 0 hHeld ?_
           refine tkY 2 hHeld ?_
           refine tkY 3 hHeld ?_
           refine tkY 4 hHeld ?_
           refine tkY 6 hHeld ?_
           refine tkY 7 hHeld ?_
           refine tkY 8 hHeld ?_
           refine tkY 9 hHeld ?_
           refine tkY 10 hHeld ?_
           refine tkY 12 hHeld ?_
           refine tkA [1,5] ?_
           refine tkC (fun K hK=>?_) ?_
           · have c3:=HKD.out _ ud0;go_simp;clear c3
             refine tkK hK (HK.out _ ud0) fun hHeld=>?_
             clear hK K
             refine tk1 5 fun K hK=>?_
             go_simp;refine (pd6 _ coefs i9 _ (HCSV.out _ ud0) HCB2.out HLN.out hi9b).mono ?_;rintro e wv1 ⟨y,HY,hy,rfl,hq⟩;have ud1:=ud0.trans hq;clear hq;go_wp2_with fail
             refine tkK hK (HK.out _ ud1) fun hHeld=>?_
             clear hK K
             refine tk1 11 fun K hK=>?_
             go_simp;refine (pcJ a x _ _ hab2 hx9 rfl).mono ?_;rintro e wv2 ⟨z,HZ,hz,rfl,rfl⟩;have ud2:=ud1;go_wp2_with fail
             refine tkK hK (HK.out _ ud2) fun hHeld=>?_
             clear hK K
             refine tk1 13 fun K hK=>?_
             go_simp;refine (pdL y z i _ (by omega) (by omega) (by omega)).mono ?_;rintro e wv3 ⟨bx,HBX,hbx,rfl,hq⟩;have ud3:=ud2.trans hq;have hD3:=HDS.out.quiet ud3;obtain ⟨b9,w',hrun,hrow',hup'⟩:=pbp wv3 b (boxT coefs keys x i) bx hD3.box (by rw [peK];omega);obtain ⟨ao',cap',rfl,hcp1,hcp2⟩:=paj hrow';obtain ⟨ao0,cap0,hb0,hcp3,hcp4⟩:=paj hD3.box;have HRN:=Lib.hid hrun;have hg0:=hD3.grownB hup';have k0:w'.cell? ⟨gD,2,none⟩=some b:=cell_of_row _ gD 2 _ _ _ hg0;have f0:w'.frozen? ⟨gD,2,none⟩=false:=frozen_of_row _ gD 2 _ _ hg0;have HKW:Hid (w'.cell? ⟨kb,i,none⟩=some (.int .i64 (a:Int))):=(World.cell?_of_block (a:=⟨kb,i,none⟩) (hup'.block kb (Nat.lt_trans HBG.out hD3.lt) (fun hm=>by have:=hD3.offb kb hm;have:=HBG.out;omega))).trans (HK.out wv3 ud3);obtain ⟨v9,hv9⟩:∃ v:Value,v=.slice ao' (boxT coefs keys x i ++ [bs bx]).length cap':=⟨_,rfl⟩;have HKX:Hid ((w'.setCell ⟨gD,2,none⟩ (.slice ao' (boxT coefs keys x i ++ [bs bx]).length cap')).cell? ⟨kb,i,none⟩=some (.int .i64 (a:Int))):=(World.cell?_setCell_other _ _ _ _ (fun e=>by have:=(Addr.mk.inj e).1;have:=HBG.out;omega)).trans HKW.out;have HFIN:Hid (DlSt w (w'.setCell ⟨gD,2,none⟩ (.slice ao' (boxT coefs keys x i ++ [bs bx]).length cap')) gD gR c (.slice ao' (boxT coefs keys x i ++ [bs bx]).length cap') p (coefs.map gP) (boxT coefs keys x (i+1))∧Upd [] [] w2 (w'.setCell ⟨gD,2,none⟩ (.slice ao' (boxT coefs keys x i ++ [bs bx]).length cap'))):=⟨(by rw [HNX.out];have e:boxL (valN coefs i9) (pP a x) i=bs bx:=(by rw [HBX.out,HY.out,HZ.out];rfl);rw [e];exact hD3.addBox hup' hrow'),((HV.out.trans ud3).past2 hup' (fun t ht=>by have:=hD3.offb t ht;have:=HGD.out;omega)).setNew (p:=⟨gD,2,none⟩) (by show w2.heap.size≤gD;exact Nat.le_of_eq HGD.out) _⟩;obtain ⟨l9,hl9⟩:∃ l,l=(boxT coefs keys x i ++ [bs bx]).length:=⟨_,rfl⟩;rw [← hl9] at HKX HFIN HRN;clear hrun hrow' hup' hg0 hq hv9 hcp1 hcp2 hl9 hb0 hcp3 hcp4;go_wp2_with fail
             refine tkK hK (HK.out _ ud3) fun hHeld=>?_
             clear hK K
             refine tk1 14 fun K hK=>?_
             go_simp
             refine tkK hK (HK.out _ (ud3.alloc _)) fun hHeld=>?_
             clear hK K
             refine tk1 15 fun K hK=>?_
             refine pav _ rfl _ _ _ _ rfl b (.slice (some ⟨wv3.heap.size,0,none⟩) 1 1) (.slice ao' l9 cap') w' rfl rfl HRN.out ?_
             refine tkK hK (HKW.out) fun hHeld=>?_
             clear hK K
             refine tkY 16 hHeld ?_
             refine tk1 17 fun K hK=>?_
             go_simp;obtain ⟨W2,hW2⟩:∃ W:World,W=w'.setCell ⟨gD,2,none⟩ (.slice ao' l9 cap'):=⟨_,rfl⟩;rw [← hW2] at HKX HFIN ⊢;clear hW2
             refine tkK hK (HKX.out) fun hHeld=>?_
             clear hK K
             refine wpAnyH_done (by kernel_rfl) ?_ _
             refine NoPanic.normal ?_
             obtain ⟨sz,hsz⟩:∃ sz,sz=wv3.heap.size:=⟨_,rfl⟩;rw [← hsz];exact hJ y z bx ao' l9 cap' sz W2 HFIN
           refine tkZ fun K hK=>?_
           go_simp;refine (pd6 _ coefs i9 _ (HCSV.out _ ud0) HCB2.out HLN.out hi9b).mono ?_;rintro e wv1 ⟨y,HY,hy,rfl,hq⟩;have ud1:=ud0.trans hq;clear hq;go_wp2_with fail
           refine tkK hK (HK.out _ ud1) fun hHeld=>?_
           clear hK K
           refine tkA [1,11] ?_
           refine tkC (fun K hK=>?_) ?_
           · have c3:=HKD.out _ ud1;go_simp;clear c3
             refine tkK hK (HK.out _ ud1) fun hHeld=>?_
             clear hK K
             refine tk1 11 fun K hK=>?_
             go_simp;refine (pcJ a x _ _ hab2 hx9 rfl).mono ?_;rintro e wv2 ⟨z,HZ,hz,rfl,rfl⟩;have ud2:=ud1;go_wp2_with fail
             refine tkK hK (HK.out _ ud2) fun hHeld=>?_
             clear hK K
             refine tk1 13 fun K hK=>?_
             go_simp;refine (pdL y z i _ (by omega) (by omega) (by omega)).mono ?_;rintro e wv3 ⟨bx,HBX,hbx,rfl,hq⟩;have ud3:=ud2.trans hq;have hD3:=HDS.out.quiet ud3;obtain ⟨b9,w',hrun,hrow',hup'⟩:=pbp wv3 b (boxT coefs keys x i) bx hD3.box (by rw [peK];omega);obtain ⟨ao',cap',rfl,hcp1,hcp2⟩:=paj hrow';obtain ⟨ao0,cap0,hb0,hcp3,hcp4⟩:=paj hD3.box;have HRN:=Lib.hid hrun;have hg0:=hD3.grownB hup';have k0:w'.cell? ⟨gD,2,none⟩=some b:=cell_of_row _ gD 2 _ _ _ hg0;have f0:w'.frozen? ⟨gD,2,none⟩=false:=frozen_of_row _ gD 2 _ _ hg0;have HKW:Hid (w'.cell? ⟨kb,i,none⟩=some (.int .i64 (a:Int))):=(World.cell?_of_block (a:=⟨kb,i,none⟩) (hup'.block kb (Nat.lt_trans HBG.out hD3.lt) (fun hm=>by have:=hD3.offb kb hm;have:=HBG.out;omega))).trans (HK.out wv3 ud3);obtain ⟨v9,hv9⟩:∃ v:Value,v=.slice ao' (boxT coefs keys x i ++ [bs bx]).length cap':=⟨_,rfl⟩;have HKX:Hid ((w'.setCell ⟨gD,2,none⟩ (.slice ao' (boxT coefs keys x i ++ [bs bx]).length cap')).cell? ⟨kb,i,none⟩=some (.int .i64 (a:Int))):=(World.cell?_setCell_other _ _ _ _ (fun e=>by have:=(Addr.mk.inj e).1;have:=HBG.out;omega)).trans HKW.out;have HFIN:Hid (DlSt w (w'.setCell ⟨gD,2,none⟩ (.slice ao' (boxT coefs keys x i ++ [bs bx]).length cap')) gD gR c (.slice ao' (boxT coefs keys x i ++ [bs bx]).length cap') p (coefs.map gP) (boxT coefs keys x (i+1))∧Upd [] [] w2 (w'.setCell ⟨gD,2,none⟩ (.slice ao' (boxT coefs keys x i ++ [bs bx]).length cap'))):=⟨(by rw [HNX.out];have e:boxL (valN coefs i9) (pP a x) i=bs bx:=(by rw [HBX.out,HY.out,HZ.out];rfl);rw [e];exact hD3.addBox hup' hrow'),((HV.out.trans ud3).past2 hup' (fun t ht=>by have:=hD3.offb t ht;have:=HGD.out;omega)).setNew (p:=⟨gD,2,none⟩) (by show w2.heap.size≤gD;exact Nat.le_of_eq HGD.out) _⟩;obtain ⟨l9,hl9⟩:∃ l,l=(boxT coefs keys x i ++ [bs bx]).length:=⟨_,rfl⟩;rw [← hl9] at HKX HFIN HRN;clear hrun hrow' hup' hg0 hq hv9 hcp1 hcp2 hl9 hb0 hcp3 hcp4;go_wp2_with fail
             refine tkK hK (HK.out _ ud3) fun hHeld=>?_
             clear hK K
             refine tk1 14 fun K hK=>?_
             go_simp
             refine tkK hK (HK.out _ (ud3.alloc _)) fun hHeld=>?_
             clear hK K
             refine tk1 15 fun K hK=>?_
             refine pav _ rfl _ _ _ _ rfl b (.slice (some ⟨wv3.heap.size,0,none⟩) 1 1) (.slice ao' l9 cap') w' rfl rfl HRN.out ?_
             refine tkK hK (HKW.out) fun hHeld=>?_
             clear hK K
             refine tkY 16 hHeld ?_
             refine tk1 17 fun K hK=>?_
             go_simp;obtain ⟨W2,hW2⟩:∃ W:World,W=w'.setCell ⟨gD,2,none⟩ (.slice ao' l9 cap'):=⟨_,rfl⟩;rw [← hW2] at HKX HFIN ⊢;clear hW2
             refine tkK hK (HKX.out) fun hHeld=>?_
             clear hK K
             refine wpAnyH_done (by kernel_rfl) ?_ _
             refine NoPanic.normal ?_
             obtain ⟨sz,hsz⟩:∃ sz,sz=wv3.heap.size:=⟨_,rfl⟩;rw [← hsz];exact hJ y z bx ao' l9 cap' sz W2 HFIN
           refine tkZ fun K hK=>?_
           go_simp;refine (pcJ a x _ _ hab2 hx9 rfl).mono ?_;rintro e wv2 ⟨z,HZ,hz,rfl,rfl⟩;have ud2:=ud1;go_wp2_with fail
           refine tkK hK (HK.out _ ud2) fun hHeld=>?_
           clear hK K
           refine tkA [1,13] ?_
           refine tkC (fun K hK=>?_) ?_
           · have c3:=HKD.out _ ud2;go_simp;clear c3
             refine tkK hK (HK.out _ ud2) fun hHeld=>?_
             clear hK K
             refine tk1 13 fun K hK=>?_
             go_simp;refine (pdL y z i _ (by omega) (by omega) (by omega)).mono ?_;rintro e wv3 ⟨bx,HBX,hbx,rfl,hq⟩;have ud3:=ud2.trans hq;have hD3:=HDS.out.quiet ud3;obtain ⟨b9,w',hrun,hrow',hup'⟩:=pbp wv3 b (boxT coefs keys x i) bx hD3.box (by rw [peK];omega);obtain ⟨ao',cap',rfl,hcp1,hcp2⟩:=paj hrow';obtain ⟨ao0,cap0,hb0,hcp3,hcp4⟩:=paj hD3.box;have HRN:=Lib.hid hrun;have hg0:=hD3.grownB hup';have k0:w'.cell? ⟨gD,2,none⟩=some b:=cell_of_row _ gD 2 _ _ _ hg0;have f0:w'.frozen? ⟨gD,2,none⟩=false:=frozen_of_row _ gD 2 _ _ hg0;have HKW:Hid (w'.cell? ⟨kb,i,none⟩=some (.int .i64 (a:Int))):=(World.cell?_of_block (a:=⟨kb,i,none⟩) (hup'.block kb (Nat.lt_trans HBG.out hD3.lt) (fun hm=>by have:=hD3.offb kb hm;have:=HBG.out;omega))).trans (HK.out wv3 ud3);obtain ⟨v9,hv9⟩:∃ v:Value,v=.slice ao' (boxT coefs keys x i ++ [bs bx]).length cap':=⟨_,rfl⟩;have HKX:Hid ((w'.setCell ⟨gD,2,none⟩ (.slice ao' (boxT coefs keys x i ++ [bs bx]).length cap')).cell? ⟨kb,i,none⟩=some (.int .i64 (a:Int))):=(World.cell?_setCell_other _ _ _ _ (fun e=>by have:=(Addr.mk.inj e).1;have:=HBG.out;omega)).trans HKW.out;have HFIN:Hid (DlSt w (w'.setCell ⟨gD,2,none⟩ (.slice ao' (boxT coefs keys x i ++ [bs bx]).length cap')) gD gR c (.slice ao' (boxT coefs keys x i ++ [bs bx]).length cap') p (coefs.map gP) (boxT coefs keys x (i+1))∧Upd [] [] w2 (w'.setCell ⟨gD,2,none⟩ (.slice ao' (boxT coefs keys x i ++ [bs bx]).length cap'))):=⟨(by rw [HNX.out];have e:boxL (valN coefs i9) (pP a x) i=bs bx:=(by rw [HBX.out,HY.out,HZ.out];rfl);rw [e];exact hD3.addBox hup' hrow'),((HV.out.trans ud3).past2 hup' (fun t ht=>by have:=hD3.offb t ht;have:=HGD.out;omega)).setNew (p:=⟨gD,2,none⟩) (by show w2.heap.size≤gD;exact Nat.le_of_eq HGD.out) _⟩;obtain ⟨l9,hl9⟩:∃ l,l=(boxT coefs keys x i ++ [bs bx]).length:=⟨_,rfl⟩;rw [← hl9] at HKX HFIN HRN;clear hrun hrow' hup' hg0 hq hv9 hcp1 hcp2 hl9 hb0 hcp3 hcp4;go_wp2_with fail
             refine tkK hK (HK.out _ ud3) fun hHeld=>?_
             clear hK K
             refine tk1 14 fun K hK=>?_
             go_simp
             refine tkK hK (HK.out _ (ud3.alloc _)) fun hHeld=>?_
             clear hK K
             refine tk1 15 fun K hK=>?_
             refine pav _ rfl _ _ _ _ rfl b (.slice (some ⟨wv3.heap.size,0,none⟩) 1 1) (.slice ao' l9 cap') w' rfl rfl HRN.out ?_
             refine tkK hK (HKW.out) fun hHeld=>?_
             clear hK K
             refine tkY 16 hHeld ?_
             refine tk1 17 fun K hK=>?_
             go_simp;obtain ⟨W2,hW2⟩:∃ W:World,W=w'.setCell ⟨gD,2,none⟩ (.slice ao' l9 cap'):=⟨_,rfl⟩;rw [← hW2] at HKX HFIN ⊢;clear hW2
             refine tkK hK (HKX.out) fun hHeld=>?_
             clear hK K
             refine wpAnyH_done (by kernel_rfl) ?_ _
             refine NoPanic.normal ?_
             obtain ⟨sz,hsz⟩:∃ sz,sz=wv3.heap.size:=⟨_,rfl⟩;rw [← hsz];exact hJ y z bx ao' l9 cap' sz W2 HFIN
           refine tkZ fun K hK=>?_
           go_simp;refine (pdL y z i _ (by omega) (by omega) (by omega)).mono ?_;rintro e wv3 ⟨bx,HBX,hbx,rfl,hq⟩;have ud3:=ud2.trans hq;have hD3:=HDS.out.quiet ud3;obtain ⟨b9,w',hrun,hrow',hup'⟩:=pbp wv3 b (boxT coefs keys x i) bx hD3.box (by rw [peK];omega);obtain ⟨ao',cap',rfl,hcp1,hcp2⟩:=paj hrow';obtain ⟨ao0,cap0,hb0,hcp3,hcp4⟩:=paj hD3.box;have HRN:=Lib.hid hrun;have hg0:=hD3.grownB hup';have k0:w'.cell? ⟨gD,2,none⟩=some b:=cell_of_row _ gD 2 _ _ _ hg0;have f0:w'.frozen? ⟨gD,2,none⟩=false:=frozen_of_row _ gD 2 _ _ hg0;have HKW:Hid (w'.cell? ⟨kb,i,none⟩=some (.int .i64 (a:Int))):=(World.cell?_of_block (a:=⟨kb,i,none⟩) (hup'.block kb (Nat.lt_trans HBG.out hD3.lt) (fun hm=>by have:=hD3.offb kb hm;have:=HBG.out;omega))).trans (HK.out wv3 ud3);obtain ⟨v9,hv9⟩:∃ v:Value,v=.slice ao' (boxT coefs keys x i ++ [bs bx]).length cap':=⟨_,rfl⟩;have HKX:Hid ((w'.setCell ⟨gD,2,none⟩ (.slice ao' (boxT coefs keys x i ++ [bs bx]).length cap')).cell? ⟨kb,i,none⟩=some (.int .i64 (a:Int))):=(World.cell?_setCell_other _ _ _ _ (fun e=>by have:=(Addr.mk.inj e).1;have:=HBG.out;omega)).trans HKW.out;have HFIN:Hid (DlSt w (w'.setCell ⟨gD,2,none⟩ (.slice ao' (boxT coefs keys x i ++ [bs bx]).length cap')) gD gR c (.slice ao' (boxT coefs keys x i ++ [bs bx]).length cap') p (coefs.map gP) (boxT coefs keys x (i+1))∧Upd [] [] w2 (w'.setCell ⟨gD,2,none⟩ (.slice ao' (boxT coefs keys x i ++ [bs bx]).length cap'))):=⟨(by rw [HNX.out];have e:boxL (valN coefs i9) (pP a x) i=bs bx:=(by rw [HBX.out,HY.out,HZ.out];rfl);rw [e];exact hD3.addBox hup' hrow'),((HV.out.trans ud3).past2 hup' (fun t ht=>by have:=hD3.offb t ht;have:=HGD.out;omega)).setNew (p:=⟨gD,2,none⟩) (by show w2.heap.size≤gD;exact Nat.le_of_eq HGD.out) _⟩;obtain ⟨l9,hl9⟩:∃ l,l=(boxT coefs keys x i ++ [bs bx]).length:=⟨_,rfl⟩;rw [← hl9] at HKX HFIN HRN;clear hrun hrow' hup' hg0 hq hv9 hcp1 hcp2 hl9 hb0 hcp3 hcp4;go_wp2_with fail
           refine tkK hK (HK.out _ ud3) fun hHeld=>?_
           clear hK K
           refine tkA [1,14] ?_
           refine tkC (fun K hK=>?_) ?_
           · have c3:=HKD.out _ ud3;go_simp;clear c3
             refine tkK hK (HK.out _ ud3) fun hHeld=>?_
             clear hK K
             refine tk1 14 fun K hK=>?_
             go_simp
             refine tkK hK (HK.out _ (ud3.alloc _)) fun hHeld=>?_
             clear hK K
             refine tk1 15 fun K hK=>?_
             refine pav _ rfl _ _ _ _ rfl b (.slice (some ⟨wv3.heap.size,0,none⟩) 1 1) (.slice ao' l9 cap') w' rfl rfl HRN.out ?_
             refine tkK hK (HKW.out) fun hHeld=>?_
             clear hK K
             refine tkY 16 hHeld ?_
             refine tk1 17 fun K hK=>?_
             go_simp;obtain ⟨W2,hW2⟩:∃ W:World,W=w'.setCell ⟨gD,2,none⟩ (.slice ao' l9 cap'):=⟨_,rfl⟩;rw [← hW2] at HKX HFIN ⊢;clear hW2
             refine tkK hK (HKX.out) fun hHeld=>?_
             clear hK K
             refine wpAnyH_done (by kernel_rfl) ?_ _
             refine NoPanic.normal ?_
             obtain ⟨sz,hsz⟩:∃ sz,sz=wv3.heap.size:=⟨_,rfl⟩;rw [← hsz];exact hJ y z bx ao' l9 cap' sz W2 HFIN
           refine tkZ fun K hK=>?_
           go_simp
           refine tkK hK (HK.out _ (ud3.alloc _)) fun hHeld=>?_
           clear hK K
           refine tk1 1 fun K hK=>?_
           have c3:=HKD.out (wv3.alloc (.cells #[.string bx] 9)) (ud3.alloc _);go_simp;clear c3
           refine tkK hK (HK.out _ (ud3.alloc _)) fun hHeld=>?_
           clear hK K
           refine tk1 15 fun K hK=>?_
           refine pav _ rfl _ _ _ _ rfl b (.slice (some ⟨wv3.heap.size,0,none⟩) 1 1) (.slice ao' l9 cap') w' rfl rfl HRN.out ?_
           refine tkK hK (HKW.out) fun hHeld=>?_
           clear hK K
           refine tkY 16 hHeld ?_
           refine tk1 17 fun K hK=>?_
           go_simp;obtain ⟨W2,hW2⟩:∃ W:World,W=w'.setCell ⟨gD,2,none⟩ (.slice ao' l9 cap'):=⟨_,rfl⟩;rw [← hW2] at HKX HFIN ⊢;clear hW2
           refine tkK hK (HKX.out) fun hHeld=>?_
           clear hK K
           refine wpAnyH_done (by kernel_rfl) ?_ _
           refine NoPanic.normal ?_
           obtain ⟨sz,hsz⟩:∃ sz,sz=wv3.heap.size:=⟨_,rfl⟩;rw [← hsz];exact hJ y z bx ao' l9 cap' sz W2 HFIN
          intro y z bx ao' l9 cap' sz W HJ
          go_wp2_with fail
          have hq9:=HI9.out
          exact ⟨⟨i9,_,by go_num,by omega,(by show DlSt _ _ _ _ _ _ _ _ _;rw [hq9];exact HJ.out.1),HJ.out.2⟩,(by first | (simp [intOf];done) | (simp [intOf];omega))⟩
        · obtain rfl:i=m:=by omega
          obtain ⟨DV,hDV⟩:∃ DV,DV=dlC c (p:Int) b:=⟨_,rfl⟩
          have hRD:=HDS.out.row
          rw [← hDV] at hRD
          have HRD:=Lib.hid hRD
          have HI:Hid ((Tryz.prog.info? 153).map (·.size)=some DV.size):=by rw [hDV];exact pcm _ _ _
          have HZ:Hid (dlZ.size=DV.size):=by show _=_;rw [hDV];rfl
          obtain ⟨aoc,capc,hc0,_,_⟩:=paj HDS.out.com
          obtain ⟨aob,capb,hb0,_,_⟩:=paj HDS.out.box
          have HO:Hid (DV.all (·.oneCell')=true):=by show _=_;rw [hDV,hc0,hb0];simp [dlC,Value.oneCell']
          have HRR:=Lib.hid HDS.out.res
          have HDVL:=Lib.hid hDV
          have hset:∀ t,gD<t→(wr.setRow gR DV).heap[t]? =wr.heap[t]?:=fun t ht=>setRow_other _ _ _ _ (by have:=HDS.out.base.2;omega)
          have HFC:Hid ((wr.setRow gR DV).ownsRow 0 3 1 c (coefs.map gP).length (pah (coefs.map gP))):=pai HDS.out.com (fun t ht=>hset t (HDS.out.offc t ht))
          have HFB:Hid (paN (wr.setRow gR DV) b (boxT coefs keys x i)):=HDS.out.box.same (fun t ht=>hset t (HDS.out.offb t ht))
          have HFO:Hid (∀ t,t∈foot c∨t∈foot b→w.heap.size≤t):=fun t ht=>by
           have h1:=HDS.out.base
           rcases ht with h | h
           · have:=HDS.out.offc t h;omega
           · have:=HDS.out.offb t h;omega
          have HUF:=Lib.hid (HDS.out.up.setRowNew HDS.out.base.1 DV)
          clear hDV hRD hc0 hb0 hset HDS3 HV HDS
          go_wp2_with (first | (refine wpList_load_row rfl 153 _ rfl gD rfl _ DV _ _ HRD.out Tryz.underlying153 rfl HI.out ?_) | (refine wpList_store_row rfl 153 _ _ rfl gR DV rfl rfl _ _ HRR.out HI.out HZ.out HO.out ?_))
          have hbx:boxT coefs keys x i=(pda coefs keys (bs seed)).boxes:=by
           unfold boxT pda
           rw [HX.out,HM.out,pae]
           rfl
          have hpt:p=(pda coefs keys (bs seed)).point:=by
           rw [HP.out,HX.out,pae]
           rfl
          have hfb:=HFB.out
          rw [hbx] at hfb
          refine bodyPost_ret (results_row_tmp rfl _ _ gR _ DV _ _ rfl (setRow_heap _ _ _ _ _ _ HRR.out) Tryz.underlying153 rfl HI.out) rfl ⟨c,b,HFC,hfb,HFO,?_,HUF.out⟩
          rw [HDVL.out,hpt]
          rfl
end Go.Proofs.YtheobkejohifaaaGreatDoor
