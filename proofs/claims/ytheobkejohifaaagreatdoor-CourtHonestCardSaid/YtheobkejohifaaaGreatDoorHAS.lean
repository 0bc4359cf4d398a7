/- sortesref08.Made and what follows. -/
import Derived.Test.YtheobkejohifaaaGreatDoorHAR
import Derived.Test.YtheobkejohifaaaGreatDoorHAC
import Derived.Test.YtheobkejohifaaaGreatDoorHAL
import Derived.Lib.SplitLaws
import Derived.Test.YtheobkejohifaaaGreatDoorHAO
import Derived.Test.YtheobkejohifaaaGreatDoorHAD
import Derived.Test.YtheobkejohifaaaGreatDoorHAA
import Derived.Test.YtheobkejohifaaaGreatDoorHAI
namespace Go.Proofs.YtheobkejohifaaaGreatDoor
open Go.RowKit
set_option maxRecDepth 100000
def pbx:List UInt8:=[102,105,114,115,116]
def pb9 (q:Nat):Nat→Nat→Nat
 | 0,_=>0
 | i+1,j=>(pb9 q i j+(pch (sdL pbx i) q).getD j 0) % Qn
theorem phT (q:Nat):∀ i j,pb9 q i j<Qn
 | 0,_=>peg
 | _+1,_=>Nat.mod_lt _ peg
def pby (q i t:Nat):List Nat:=(List.range q).map fun j=>if j<t then pb9 q (i+1) j else pb9 q i j
def pbm (q i:Nat):List Nat:=(List.range q).map (pb9 q i)
theorem phU (q i:Nat):pby q i 0=pbm q i:=by simp [pby,pbm]
theorem pjg (q i:Nat):pby q i q=pbm q (i+1):=by
 unfold pby pbm
 apply List.map_congr_left
 intro j hj
 rw [if_pos (List.mem_range.1 hj)]
theorem pbU (q i:Nat):(pbm q i).length=q:=by simp [pbm]
theorem pjh (q:Nat):pbm q 0=List.replicate q 0:=by
 apply List.ext_getElem
 · simp [pbm]
 · intro i h1 h2
   simp [pbm,pb9]
theorem pji {q i t:Nat} (ht:t<q):(pby q i t)[t]? =some (pb9 q i t):=by simp [pby,ht]
theorem pjj {q i t:Nat} (ht:t<q):(pby q i t).set t (pb9 q (i+1) t)=pby q i (t+1):=by
 apply List.ext_getElem?
 intro j
 rw [List.getElem?_set]
 by_cases hj:j<q
 · by_cases e:t=j
   · subst e
     simp [pby,ht]
   · have h1:(j<t) ↔ (j<t+1):=by omega
     simp [pby,e,hj,h1]
 · have e:t≠j:=by omega
   simp [pby,e,hj]
def grZ:Array Value:=#[.slice none 0 0,.slice none 0 0,.slice none 0 0,.slice none 0 0,.slice none 0 0]
def grV (L S C K P:Value):Array Value:=#[L,S,C,K,P]
theorem pm5 (L S C K P:Value):(Tryz.prog.info? 32).map (·.size)=some (grV L S C K P).size:=by
 show _=some 5
 kernel_rfl
structure GrSt (w1 wr:World) (g2 g5:Nat) (L S C:Value) (k:Nat) (cs:List Nat):Prop where
 row:wr.heap[g5]? =some (.cells (grV L S C (.slice none 0 0) (.slice none 0 0)) 32 (0,0))
 res:wr.heap[g2]? =some (.cells grZ 32 (0,0))
 co:wr.ownsRow 0 3 1 C k (pah cs)
 up:Upd [] [] w1 wr
 base:g2<g5∧w1.heap.size≤g5
 off:∀ x,x∈foot C→g5<x
section
variable {w1 wr w' : World} {g2 g5 k : Nat} {L S C C' : Value} {cs cs' : List Nat}
theorem GrSt.lt (h:GrSt w1 wr g2 g5 L S C k cs):g5<wr.heap.size:=pag h.row
theorem GrSt.quiet (h:GrSt w1 wr g2 g5 L S C k cs) (u:Upd [] [] wr w'):GrSt w1 w' g2 g5 L S C k cs :=
 ⟨paa h.row u,paa h.res u,pds h.co u,h.up.trans u,h.base,h.off⟩
theorem GrSt.grown (h:GrSt w1 wr g2 g5 L S C k cs) (u:Upd (foot C) (foot C') wr w'):w'.heap[g5]? =some (.cells (grV L S C (.slice none 0 0) (.slice none 0 0)) 32 (0,0)) :=
 (u.block g5 h.lt (fun q=>Nat.lt_irrefl _ (h.off g5 q))).trans h.row
theorem GrSt.add (h:GrSt w1 wr g2 g5 L S C k cs) (u:Upd (foot C) (foot C') wr w') (hr:w'.ownsRow 0 3 1 C' (k+1) (pah cs')):GrSt w1 (w'.setCell ⟨g5,2,none⟩ C') g2 g5 L S C' (k+1) cs':=by
 have hD:=h.lt
 have hoff:∀ x,x∈foot C'→g5<x:=fun x hx=>by
  rcases u.new x hx with e | e
  · exact h.off x e
  · omega
 have hsame:∀ x,x≠g5→(w'.setCell ⟨g5,2,none⟩ C').heap[x]? =w'.heap[x]?:=fun x hx=>Below.heap_setCell _ _ _ _ hx
 have hb:=h.base
 refine ⟨heap_setCell_same w' g5 2 _ _ C' (h.grown u),?_,?_,?_,h.base,hoff⟩
 · rw [hsame g2 (by omega),u.block g2 (by omega) (fun q=>by have:=h.off g2 q;omega)]
   exact h.res
 · exact pai hr (fun x hx=>hsame x (by have:=hoff x hx;omega))
 · exact (h.up.past2 u (fun x hx=>by have:=h.off x hx;omega)).setNew (p:=⟨g5,2,none⟩) (by show w1.heap.size≤g5;omega) _
end
structure GqSt (w1 wr:World) (g2 g5:Nat) (L S:Value) (cb q cap:Nat) (cs:List Nat):Prop where
 row:wr.heap[g5]? =some (.cells (grV L S (.slice (some ⟨cb,0,none⟩) q cap) (.slice none 0 0) (.slice none 0 0)) 32 (0,0))
 res:wr.heap[g2]? =some (.cells grZ 32 (0,0))
 co:∃ cur,wr.heap[cb]? =some (.cells cur 3 (0,0))∧cur.toList.take q=pah cs∧cur.size=cap
 len:cs.length=q
 fit:q≤cap∧cap≤maxLen
 up:Upd [] [] w1 wr
 base:g2<g5∧w1.heap.size≤g5∧g5<cb
theorem GrSt.done {w1 wr:World} {g2 g5 q:Nat} {L S C:Value} {cs:List Nat} (h:GrSt w1 wr g2 g5 L S C q cs) (hl:cs.length=q) (hq:0<q):∃ cb cap,C=.slice (some ⟨cb,0,none⟩) q cap∧GqSt w1 wr g2 g5 L S cb q cap cs:=by
 obtain ⟨g,cap,cur,rfl,hg,h1,h2,h3,h4⟩:=pcd h.co hq
 have ho:=h.off g (by simp [foot,Value.ownBlock])
 exact ⟨g,cap,rfl,h.row,h.res,⟨cur,hg,by simpa using h4,by omega⟩,hl,⟨h1,h2⟩,h.up,h.base.1,h.base.2,ho⟩
section
variable {w1 wr w' : World} {g2 g5 cb q cap : Nat} {L S : Value} {cs : List Nat}
theorem GqSt.quiet (h:GqSt w1 wr g2 g5 L S cb q cap cs) (u:Upd [] [] wr w'):GqSt w1 w' g2 g5 L S cb q cap cs:=by
 obtain ⟨cur,hc,h4,h5⟩:=h.co
 exact ⟨paa h.row u,paa h.res u,⟨cur,paa hc u,h4,h5⟩,h.len,h.fit,h.up.trans u,h.base⟩
theorem GqSt.cell (h:GqSt w1 wr g2 g5 L S cb q cap cs) {j x:Nat} (hx:cs[j]? =some x):wr.cell? ⟨cb,j,none⟩=some (.int .i64 (x:Int))∧wr.frozen? ⟨cb,j,none⟩=false:=by
 obtain ⟨cur,hc,h4,_⟩:=h.co
 have hj:=(List.getElem?_eq_some_iff.1 hx).1
 have hl:=h.len
 refine ⟨?_,frozen_of_row _ cb j _ _ hc⟩
 rw [cell_of_row wr cb j _ _ _ hc]
 have e:(pah cs)[j]? =some (digV x):=by simp [pah,hx]
 rw [← h4,List.getElem?_take_of_lt (by omega)] at e
 simpa [digV] using e
theorem GqSt.set (h:GqSt w1 wr g2 g5 L S cb q cap cs) {j x:Nat} (_hj:j<q):GqSt w1 (wr.setCell ⟨cb,j,none⟩ (.int .i64 (x:Int))) g2 g5 L S cb q cap (cs.set j x):=by
 obtain ⟨cur,hc,h4,h5⟩:=h.co
 have hb:=h.base
 have hsame:∀ t,t≠cb→(wr.setCell ⟨cb,j,none⟩ (.int .i64 (x:Int))).heap[t]? =wr.heap[t]?:=fun t ht=>Below.heap_setCell _ _ _ _ ht
 refine ⟨(hsame g5 (by omega)).trans h.row,(hsame g2 (by omega)).trans h.res,⟨cur.setIfInBounds j (.int .i64 (x:Int)),heap_setCell_same wr cb j _ _ _ hc,?_,by simpa using h5⟩,by simp [h.len],h.fit,h.up.setNew (p:=⟨cb,j,none⟩) (by show w1.heap.size≤cb;omega) _,h.base⟩
 rw [Array.toList_setIfInBounds,List.take_set,h4]
 simp [pah,digV]
end
end Go.Proofs.YtheobkejohifaaaGreatDoor

namespace Go.Proofs.YtheobkejohifaaaGreatDoor
set_option maxRecDepth 100000
def pgV:List UInt8:=List.replicate 64 48
def tPre:List UInt8:=[101,118,101,110,116,32,53,32,52,32,51,32,48,32,48,32] ++ (pgV ++ [32,49,58])
def tA:List UInt8:=tPre ++ [97]
def tB:List UInt8:=tPre ++ [98]
def three:List UInt8:=[116,104,114,101,101]
theorem pm6:keyN three=157892282797220714:=by decide +kernel
theorem ppX:nonceN 157892282797220714 tA=582795021020609833:=by decide +kernel
theorem pqS:gP 157892282797220714=1329328167538474094:=by
 rw [gP,← pfS Pn 64 4 157892282797220714 (by decide)]
 decide +kernel
theorem k_r:gP 582795021020609833=1933573506679164813:=by
 rw [gP,← pfS Pn 64 4 582795021020609833 (by decide)]
 decide +kernel
theorem k_ca:pcF 1933573506679164813 1329328167538474094 tA=159858859656014421:=by decide +kernel
theorem k_cb:pcF 1933573506679164813 1329328167538474094 tB=223578461168602368:=by decide +kernel
theorem pm7:verB (gP (keyN three):Int) tB (gP (nonceN (keyN three) tA):Int) (sWith (keyN three) (nonceN (keyN three) tA) tA:Int)=false:=by
 cases h:verB (gP (keyN three):Int) tB (gP (nonceN (keyN three) tA):Int) (sWith (keyN three) (nonceN (keyN three) tA) tA:Int) with
 | false=>rfl
 | true =>
  rcases ver_two (ver_with (keyN three) (nonceN (keyN three) tA) tA) h with k | k
  · rw [pm6,ppX,pqS,k_r,k_ca,k_cb] at k
    exact absurd k (by decide)
  · rw [pm6,pqS] at k
    exact absurd k (by decide)
end Go.Proofs.YtheobkejohifaaaGreatDoor

namespace Go.Proofs.YtheobkejohifaaaGreatDoor
open Go.RowKit
set_option maxRecDepth 100000
def evV (c:UInt8) (r s:Int):List Value:=[.int .i64 5,.int .i64 4,.int .i64 3,.int .i64 0,.int .i64 0,.string ⟨#[c]⟩] ++ (byteVals zero32 ++ [.int .i64 r,.int .i64 s])
theorem pcN (c:UInt8) (r s:Int):(evV c r s).length=40:=by simp [evV,byteVals,zero32]
theorem ppY (c:UInt8) (r s:Int):∀ u∈evV c r s,u.oneCell'=true:=by
 intro u hu
 simp only [evV,List.mem_append,List.mem_cons,List.not_mem_nil,or_false] at hu
 rcases hu with (rfl | rfl | rfl | rfl | rfl | rfl) | hu | rfl | rfl
 all_goals first | rfl | exact paG _ _ hu
def tOf (c:UInt8):List UInt8:=tPre ++ [c]
def wEv:List UInt8:=[101,118,101,110,116]
def prU (c:UInt8):List UInt8:=[48,32,48,32] ++ tOf c
theorem pgW (c:UInt8):(tOf c).length=84:=by simp [tOf,tPre,pgV]
theorem pfn (n:Nat) (h:n<10):Lib.itoa (n:Int)=[UInt8.ofNat (48+n)]:=by
 unfold Lib.itoa
 rw [if_neg (by omega),Int.toNat_natCast,Lib.decDigits_one h]
theorem pqT:Lib.itoa 5=[53]:=pfn 5 (by omega)
theorem pqU:Lib.itoa 4=[52]:=pfn 4 (by omega)
theorem phV:Lib.itoa 0=[48]:=pfn 0 (by omega)
theorem pqV:Lib.itoa 1=[49]:=pfn 1 (by omega)
theorem poD:hexL zero32=pgV:=by decide
theorem poE (c:UInt8):Lib.join [wEv,[53],[52],[51],[48],[48],pgV,[49,58,c]] [32]=tOf c:=by
 simp [Lib.join,List.intercalate_cons_cons,tOf,tPre,wEv]
theorem pa3 {c:UInt8} {k:Nat} {a b:List UInt8} (h:c ∉ a):Lib.splitK [c] 0 (k+1) (a ++ c :: b)=a :: Lib.splitK [c] 0 k b:=by
 have hi:=pdV c a b h
 have h1:(a ++ c :: b).take a.length=a:=List.take_left
 have h2:(a ++ c :: b).drop (a.length+1)=b:=by
  rw [show a ++ c :: b=(a ++ [c]) ++ b by simp,show a.length+1=(a ++ [c]).length by simp]
  exact List.drop_left
 rw [Lib.splitK,hi,if_neg (by simp),Int.toNat_natCast,Nat.add_zero,h1]
 show a :: Lib.splitK [c] 0 k ((a ++ c :: b).drop (a.length+1))=_
 rw [h2]
theorem pm8 {s sep:ByteArray} {k:Nat} {l:List (List UInt8)} (h:Lib.splitK (bs sep) 0 k (bs s)=l):Lib.splitB sep 0 k s=l.map (fun x=>⟨x.toArray⟩):=by
 have e:=Lib.splitB_data sep 0 k s
 have e2:(Lib.splitB sep 0 k s).map (·.data.toList)=l:=e.trans h
 rw [← e2,List.map_map]
 conv=>lhs;rw [← List.map_id (Lib.splitB sep 0 k s)]
 refine List.map_congr_left fun x _=>?_
 exact paM rfl
theorem pm9 {c:UInt8} (h:c≠32) {s:ByteArray} (hs:bs s=tOf c):Lib.countB s ⟨#[32]⟩=7:=by
 have e:Lib.countB s ⟨#[32]⟩=(bs s).count 32:=Lib.count_one 32 (bs s)
 rw [e,hs,tOf,List.count_append,show tPre.count 32=7 by decide,List.count_cons_of_ne (by simpa using h)]
 rfl

def EvA (w:World) (g:Nat) (c:UInt8) (r s:Int):Prop:=w.heap[g]? =some (.cells (evV c r s).toArray 53 (0,0))
theorem EvA.upd {w w':World} {g:Nat} {c:UInt8} {r s:Int} (h:EvA w g c r s) (u:Upd [] [] w w'):EvA w' g c r s:=paa h u
theorem EvA.cell {w:World} {g:Nat} {c:UInt8} {r s:Int} (h:EvA w g c r s) (j:Nat):w.cell? ⟨g,j,none⟩=(evV c r s)[j]?:=by
 rw [cell_of_row w g j _ _ _ h,List.getElem?_toArray]
theorem ppZ (c:UInt8) (r s:Int):(evV c r s)[38]? =some (.int .i64 r):=by
 unfold evV
 rw [List.getElem?_append_right (by simp),List.getElem?_append_right (by simp [byteVals,zero32])]
 simp [byteVals,zero32]
theorem pp0 (c:UInt8) (r s:Int):(evV c r s)[39]? =some (.int .i64 s):=by
 unfold evV
 rw [List.getElem?_append_right (by simp),List.getElem?_append_right (by simp [byteVals,zero32])]
 simp [byteVals,zero32]
def evS (g:Nat) (c:UInt8) (ZH:Array Value) (w:World):Prop:=w.cell? ⟨g,0,none⟩=some (.int .i64 5)∧w.cell? ⟨g,1,none⟩=some (.int .i64 4)∧w.cell? ⟨g,2,none⟩=some (.int .i64 3)∧w.cell? ⟨g,3,none⟩=some (.int .i64 0)∧w.cell? ⟨g,4,none⟩=some (.int .i64 0)∧w.cell? ⟨g,5,none⟩=some (.string ⟨#[c]⟩)∧(Instr.loadAt 51 (.pointer (some ⟨g,6,none⟩))).run Tryz.prog w=.ok (.agg ZH) w
theorem pgX {w:World} {g:Nat} {c:UInt8} {r s:Int} {E:Array Value} (hE:E=(evV c r s).toArray) (h:EvA w g c r s):(Instr.loadAt 53 (.pointer (some ⟨g,0,none⟩))).run Tryz.prog w=.ok (.agg E) w:=by
 subst hE
 refine run_loadAt_mid w g 0 53 _ _ (fun j v hv=>?_) Tryz.underlying53 rfl ?_
 · rw [h.cell,Nat.zero_add];exact hv
 · rw [pcN];kernel_rfl
theorem pna (n:Int) (t:ByteArray) (h:Lib.itoa n=bs t) (hn:pab n) (w:World) (htab:Tabs w):Calls Tryz.prog 36 #[.int .i64 n] w (fun e w'=>e=.returned (.string t)∧Upd [] [] w w'):=by
 refine (paD n w hn htab).mono ?_
 rintro e w' ⟨y,HY,_,rfl,hq⟩
 obtain rfl:y=t:=paM (HY.out.trans h)
 exact ⟨rfl,hq⟩
theorem pgd (c:UInt8) (r s:Int):(Tryz.prog.info? 53).map (·.size)=some (evV c r s).toArray.size:=by
 rw [show (evV c r s).toArray.size=40 from pcN c r s]
 kernel_rfl
theorem pnb (c:UInt8) (r s:Int):(evV c r s).toArray.all (·.oneCell')=true:=by
 rw [Array.all_eq_true_iff_forall_mem]
 intro v hv
 exact ppY c r s v (by simpa using hv)
def pdN (C:Array Value) (o:Nat):List Value→Array Value
 | []=>C
 | v :: r=>pdN (C.setIfInBounds o v) (o+1) r
theorem pbd (g:Nat) (t:TypeId):∀ (V:List Value) (o:Nat) (w:World) (C:Array Value),w.heap[g]? =some (.cells C t (0,0))→(w.setCells g o V).heap[g]? =some (.cells (pdN C o V) t (0,0))
 | [],_,_,_,h=>h
 | v :: r,o,w,C,h=>pbd g t r (o+1) _ _ (by rw [heap_setCell_same w g o _ _ v h])
theorem pbq {w:World} {g o n:Nat} {C:Array Value} {t:TypeId} (h:w.heap[g]? =some (.cells C t (0,0))) (hn:o+n≤C.size):w.there g o n:=fun j hj=>⟨by
 rw [cell_of_row _ _ _ _ _ _ h,Array.getElem?_eq_getElem (by omega)]
 rfl,frozen_of_row _ _ _ _ _ h⟩
def evZ:List Value:=[.int .i64 0,.int .i64 0,.int .i64 0,.int .i64 0,.int .i64 0,.string ⟨#[]⟩] ++ (byteVals zero32 ++ [.int .i64 0,.int .i64 0])
theorem paz:(#[.int .i64 0,.int .i64 0,.int .i64 0,.int .i64 0,.int .i64 0,.string ⟨#[]⟩,.int .u8 0,.int .u8 0,.int .u8 0,.int .u8 0,.int .u8 0,.int .u8 0,.int .u8 0,.int .u8 0,.int .u8 0,.int .u8 0,.int .u8 0,.int .u8 0,.int .u8 0,.int .u8 0,.int .u8 0,.int .u8 0,.int .u8 0,.int .u8 0,.int .u8 0,.int .u8 0,.int .u8 0,.int .u8 0,.int .u8 0,.int .u8 0,.int .u8 0,.int .u8 0,.int .u8 0,.int .u8 0,.int .u8 0,.int .u8 0,.int .u8 0,.int .u8 0,.int .i64 0,.int .i64 0]:Array Value)=evZ.toArray:=by kernel_rfl
theorem pce:evZ.toArray.size=40:=by simp [evZ,byteVals,zero32]
theorem pp1 (l:List Int) (n:Nat):(wsN l n).length=n:=by simp [wsN]
theorem pkn {ws:List Nat} (hw:WsOk ws) (seed:List UInt8) (k:Nat):∀ d∈dsN ws seed k,pkm d ws.sum∧d.coms.length=needN ws.sum:=by
 intro d hd
 simp only [dsN,List.mem_map] at hd
 obtain ⟨i,_,rfl⟩:=hd
 have h1:=hw.sum
 have h2:=pcg h1.1
 have hc:(dlAt ws seed i).coms.length=needN ws.sum:=by rw [dlAt,pkX,pbY]
 have hb:(dlAt ws seed i).boxes.length=ws.sum:=by rw [dlAt,piO,pfm]
 exact ⟨⟨pl0,piP,by rw [hc];exact h2.1,by rw [hc];exact h2.2,hb,plZ⟩,hc⟩
structure MadeRd (l:List Int) (W:World) (L S C K P:Value):Prop where
 crew:pb7 W L (wsN l (pax l))
 secs:Sl W S (pbQ (pax l))
 coefs:Sl W C (pbm (needN (wsN l (pax l)).sum) (pax l))
 coms:Sl W K (mixL (dsN (wsN l (pax l)) pbx (pax l)) (needN (wsN l (pax l)).sum))
 pts:pdr W P (pcH (wsN l (pax l)))
theorem MadeRd.upd {l:List Int} {w w':World} {L S C K P:Value} (h:MadeRd l w L S C K P) (u:Upd [] [] w w'):MadeRd l w' L S C K P :=
 ⟨h.crew.upd u,h.secs.upd u,h.coefs.upd u,h.coms.upd u,h.pts.upd u⟩
def pqW (l:List Int) (w:World) (e:Ending) (w':World):Prop:=∃ L S C K P:Value,Hid (∀ W,paB w w' W→MadeRd l W L S C K P)∧e=.returned (.agg (grV L S C K P))∧Upd [] [] w w'
set_option maxHeartbeats 8000000 in
theorem pnc (l:List Int) (v:Value) (w:World) (hv:RdO w v l) (hi:∀ x∈l,pab x) (hl:l.length≤9223372036854775807) :
 Calls Tryz.prog 19 #[v] w (pqW l w):=by
 obtain ⟨gR,hgR⟩:∃ g,w.heap.size=g:=⟨_,rfl⟩
 obtain ⟨w0,hw0⟩:∃ W,w.alloc (.cells grZ 32)=W:=⟨_,rfl⟩
 have s0:=Lib.hid (show w0.heap[gR]? =some (.cells grZ 32 (0,0)) by rw [← hgR,← hw0];exact heap_alloc_new _ _)
 have u0:=Lib.hid (show Upd [] [] w w0 by rw [← hw0];exact (Upd.refl _ _).alloc _)
 have HG:Hid (w.heap.size≤gR):=Nat.le_of_eq hgR
 have hw0':w.alloc (.cells #[.slice none 0 0,.slice none 0 0,.slice none 0 0,.slice none 0 0,.slice none 0 0] 32)=w0:=hw0
 have HCW:=Lib.hid (pmX l v w0 (hv.upd u0.out) hi hl)
 obtain ⟨n,hn⟩:∃ n,n=pax l:=⟨_,rfl⟩
 obtain ⟨ws,hws⟩:∃ ws,ws=wsN l n:=⟨_,rfl⟩
 have HWS:Hid (WsOk ws):=by rw [hws,hn];exact pfX l
 have HWL:Hid (ws.length=n):=by show _=_;rw [hws,pp1]
 have HNN:=Lib.hid hn
 have HWW:=Lib.hid hws
 have hn4:1≤n∧n≤4:=by have h1:=HWS.out.1;have h2:=HWS.out.2.1;have h3:=HWL.out;omega
 obtain ⟨T,hT⟩:∃ T,T=ws.sum:=⟨_,rfl⟩
 have hT12:1≤T∧T≤12:=by rw [hT];exact HWS.out.sum
 have HT:=Lib.hid hT
 obtain ⟨q,hq⟩:∃ q,q=needN T:=⟨_,rfl⟩
 have hq12:1≤q∧q≤T:=by rw [hq];exact pcg hT12.1
 have HQ:=Lib.hid hq
 clear hv hi hl hn hws hw0 hT hq
 go_enter Tryz.func19,Tryz.ntmps19
 go_wp2_with fail
 refine HCW.out.mono ?_
 rintro e w1 ⟨L,S,HL,HS,HAP,HNW,rfl,HU1⟩
 obtain ⟨la,lc,hlv,hlc,hlm,hM⟩:=pd7 (pdp l (pax l)) HL.out
 have HCR1:Hid (pb7 w1 L ws):=by
  rw [← HNN.out] at hlv hlc hM
  refine ⟨la,lc,by rw [hlv,HWL.out],by rw [HWL.out];exact hlc,Nat.le_trans hlm (by unfold maxLen;omega),?_⟩
  rw [HWW.out,← pfl]
  exact hM
 have HSE1:Hid (Sl w1 S (pbQ n)):=by
  rw [HNN.out]
  exact Sl.of_digs (pd8 _) HS.out
 obtain ⟨sa,sc,hsv,_,_⟩:=paj HS.out
 have HLR:=HL
 have HSR:=HS
 have HNW0:=HNW
 have HSV:Hid (S=.slice sa n sc):=by rw [HNN.out];exact hsv
 have HUW0:=Lib.hid HU1.out.size
 rw [← HNN.out] at hlv hsv
 have U1:=Lib.hid (u0.out.trans HU1.out)
 have S1:=Lib.hid (paa s0.out HU1.out)
 obtain ⟨GV,hGV⟩:∃ GV,GV=grV L S (.slice none 0 0) (.slice none 0 0) (.slice none 0 0):=⟨_,rfl⟩
 have HB:Hid (Tryz.prog.built 32 [(0,L),(1,S)]=some GV):=by show _=_;rw [hGV,hlv,hsv];kernel_rfl
 have HI:Hid ((Tryz.prog.info? 32).map (·.size)=some GV.size):=by rw [hGV];exact pm5 _ _ _ _ _
 have HZ:Hid (grZ.size=GV.size):=by show _=_;rw [hGV];rfl
 have HO:Hid (GV.all (·.oneCell')=true):=by show _=_;rw [hGV,hlv,hsv];simp [grV,Value.oneCell']
 obtain ⟨w2,Z2,W2,R2,hq2⟩:=paC w1 32 grZ GV
 obtain ⟨g5,hg5⟩:∃ g,w1.heap.size=g:=⟨_,rfl⟩
 rw [hg5] at Z2 W2 R2
 have HG5:=Lib.hid hg5
 have U12:=Lib.hid hq2
 have HGS2:Hid (GrSt w1 w2 gR g5 L S (.slice none 0 0) 0 []) :=
  ⟨by rw [← hGV];exact R2.out,paa S1.out hq2,World.ownsRow_nil _ _ _ _,hq2,⟨by rw [← hg5];exact pag S1.out,Nat.le_of_eq hg5⟩,(fun x h=>by cases h)⟩
 have HLV:Hid (L=.slice la n lc):=hlv
 have hz2:(w1.alloc (.cells grZ 32)).setRow g5 GV=w2:=W2.out
 clear hlv hlc hlm hM hsv hGV hq2 R2 W2 HL HS HAP HNW HU1 HCW
 go_wp2_with (first | (refine wpList_buildTo rfl 32 _ rfl _ rfl GV (Eq.trans (congrArg (fun z=>Tryz.prog.built 32 z) (by kernel_rfl)) HB.out) ?_) | (refine wpList_store_rowAs rfl 32 _ _ rfl g5 GV rfl rfl _ _ Z2.out HI.out HZ.out HO.out w2 hz2 ?_))
 clear Z2 HB HI HZ HO hz2 hg5
 refine (pcY L ws w2 HWS.out (HCR1.out.upd U12.out)).mono ?_
 rintro e w3 ⟨rfl,hq⟩
 rw [← HT.out]
 have HGS3:=Lib.hid (HGS2.out.quiet hq)
 clear hq HGS2
 go_wp2_with fail
 refine (pdG T w3 hT12.1 (by omega)).mono ?_
 rintro e w' ⟨rfl,rfl⟩
 rw [← HQ.out]
 go_wp2_with fail
 go_loopw [7] (fun i wr=>∃ (k:Nat) (C:Value),i=.int .i64 (k:Int)∧k≤q∧Hid (GrSt w1 wr gR g5 L S C k (List.replicate k 0))) (fun i _=>q - (intOf i).toNat)
 case atStart=>exact ⟨0,_,rfl,Nat.zero_le _,HGS3.out⟩
 case round =>
  obtain ⟨k,C,rfl,hk,HGS⟩:=hrel
  by_cases hlt:k<q
  · obtain ⟨C',w',hrun,hown',hup'⟩:=pa2 wr C (List.replicate k 0) k 0 List.length_replicate HGS.out.co (by omega)
    rw [show List.replicate k 0 ++ [0]=List.replicate (k+1) (0:Nat) from List.replicate_succ'.symm] at hown'
    obtain ⟨ao',cap',rfl,_,_⟩:=paj hown'
    have hrun2:(Builtin.append_ #[22,22] 22 #[C,.slice (some ⟨wr.heap.size,0,none⟩) 1 1]).run Tryz.prog (wr.alloc (.cells #[.int .i64 0] 3))=.ok (.slice ao' (k+1) cap') w':=hrun
    have HRN:=Lib.hid hrun2
    have hg0:=HGS.out.grown hup'
    have k0:w'.cell? ⟨g5,2,none⟩=some C:=cell_of_row _ g5 2 _ _ _ hg0
    have f0:w'.frozen? ⟨g5,2,none⟩=false:=frozen_of_row _ g5 2 _ _ hg0
    have HGN:=Lib.hid (HGS.out.add hup' hown')
    have c0:wr.cell? ⟨g5,2,none⟩=some C:=cell_of_row _ g5 2 _ _ _ HGS.out.row
    have x1:(k:Int)<(q:Int):=by omega
    clear hrun hrun2 hown' hup' hg0 HGS
    go_wp2_with (refine wpList_append_run _ rfl _ _ _ _ rfl _ _ (.slice ao' (k+1) cap') w' rfl rfl HRN.out ?_)
    exact ⟨⟨k+1,_,by go_num,by omega,HGN.out⟩,(by first | (simp [intOf];done) | (simp [intOf];omega))⟩
  · obtain rfl:q=k:=by omega
    obtain ⟨cb,cap,rfl,hgq⟩:=HGS.out.done List.length_replicate (by omega)
    rw [← pjh] at hgq
    have HGQ:=Lib.hid hgq
    obtain ⟨w4,hw4⟩:∃ W,W=wr:=⟨_,rfl⟩
    rw [← hw4] at HGQ ⊢
    have d0:w4.cell? ⟨g5,0,none⟩=some L:=cell_of_row _ g5 0 _ _ _ HGQ.out.row
    have x1:¬ (q:Int)<(q:Int):=by omega
    clear hgq HGS hw4
    go_wp2_with fail
    refine (pgU L ws ⟨#[102,105,114,115,116]⟩ w4 HWS.out (HCR1.out.upd HGQ.out.up) (by decide)).mono ?_
    rintro e w5 ⟨dv,HDV,rfl,hq⟩
    have HGQ5:=Lib.hid (HGQ.out.quiet hq)
    have HCB:Hid (cb<w4.heap.size):=by obtain ⟨cur,hc,_⟩:=HGQ.out.co;exact pag hc
    have hsf:bs ⟨#[102,105,114,115,116]⟩=pbx:=rfl
    rw [hsf,HWL.out] at HDV
    have HSZ:=Lib.hid hq.size
    have hlv:=HLV.out
    subst hlv
    clear hq hsf d0
    go_wp2_with fail
    go_loopw [9,10,11] (fun i _ _ wr=>∃ k:Nat,i=.int .i64 (k:Int)∧k≤n∧Hid (GqSt w1 wr gR g5 (.slice la n lc) S cb q cap (pbm q k))∧Hid (Upd [cb] [cb] w5 wr)) (fun i _ _ _=>n - (intOf i).toNat)
    case atStart=>exact ⟨0,rfl,Nat.zero_le _,HGQ5.out,Upd.refl _ _⟩
    case round =>
     obtain ⟨i,rfl,hi,HGI,HUI⟩:=hrel
     by_cases hli:i<n
     · obtain ⟨z,hz⟩:∃ z,ws[i]? =some z:=⟨_,List.getElem?_eq_getElem (by rw [HWL.out];exact hli)⟩
       obtain ⟨ao',cap',ev,_,_,hM⟩:=HCR1.out.upd HGI.out.up
       rw [HWL.out] at ev
       obtain ⟨g,eg,hg,c0,c1,c2⟩:=hM i _ (pbb hz)
       injection ev with e1 e2 e3
       subst e1
       subst eg
       dsimp only [memC] at c0 c1 c2
       obtain ⟨I,hI⟩:∃ I,I=i+1:=⟨_,rfl⟩
       rw [← hI] at c0
       have HI:=Lib.hid hI
       have hI4:I≤4:=by omega
       have hitl:(Lib.itoa (I:Int)).length≤20:=itoa_len (I:Int) (by unfold pab;omega)
       have i0:(0:Int)≤(i:Int):=by omega
       have i1:(i:Int)<(n:Int):=by omega
       have h6:(ByteArray.mk #[102,105,114,115,116,32]).size=6:=rfl
       clear hz c1 c2 hI e2 e3 hM hg
       go_wp2_with fail
       refine (pb0 I wr (by omega)).mono ?_
       rintro e w6 ⟨y,HY,hy,rfl,hq⟩
       have HGI6:=Lib.hid (HGI.out.quiet hq)
       have HUI6:=Lib.hid (HUI.out.trans (hq.widen (K:=[cb]) (by simp)))
       clear hq HGI HUI c0
       obtain ⟨sd,hsd⟩:∃ sd,sd=⟨#[102,105,114,115,116,32]⟩ ++ y:=⟨_,rfl⟩
       have hsd3:⟨#[102,105,114,115,116,32]⟩ ++ y=sd:=hsd.symm
       have hsds:sd.size≤1000000:=by rw [hsd];simp [ByteArray.size_append];omega
       have HSD:Hid (bs sd=sdL pbx i):=by
        show _=_
        rw [hsd,pae,HY.out]
        unfold sdL
        rw [HI.out]
        rfl
       clear hsd
       go_wp2_with fail
       refine (phP sd q w6 hsds (by omega)).mono ?_
       rintro e w7 ⟨pv,HPR,rfl,HPU⟩
       rw [HSD.out] at HPR
       have HPQ:Hid (Upd [] [] w6 w7):=HPU.out.mono (fun _ h=>h) (fun _ h=>absurd h (by simp))
       have HGI7:=Lib.hid (HGI6.out.quiet HPQ.out)
       have HUI7:=Lib.hid (HUI6.out.trans (HPQ.out.widen (K:=[cb]) (by simp)))
       have HCB6:Hid (cb<w6.heap.size):=by obtain ⟨cur,hc,_⟩:=HGI6.out.co;exact pag hc
       have HPN:Hid (∀ x,x∈foot pv→x≠cb):=fun x hx e=>by
        rcases HPU.out.new x hx with h | h
        · cases h
        · have:=HCB6.out;omega
       obtain ⟨pa,pc,hpv,hpc,_⟩:=paj HPR.out
       subst hpv
       clear hsd3 HPU HPQ HGI6 HUI6 HY hy hitl
       go_wp2_with fail
       go_loopw [11] (fun j wr'=>∃ t:Nat,j=.int .i64 (t:Int)∧t≤q∧Hid (GqSt w1 wr' gR g5 (.slice (some ⟨g,0,none⟩) n lc) S cb q cap (pby q i t))∧Hid (Upd [cb] [cb] w7 wr')) (fun j _=>q - (intOf j).toNat)
       case atStart=>exact ⟨0,rfl,Nat.zero_le _,(by show GqSt _ _ _ _ _ _ _ _ _ _;rw [phU];exact HGI7.out),Upd.refl _ _⟩
       case round =>
        obtain ⟨t,rfl,ht,HGT,HUT⟩:=hrel
        by_cases hlt2:t<q
        · have hrow:=pai HPR.out (fun x hx=>HUT.out.block x (paf HPR.out x hx) (by have:=HPN.out x hx;simpa using this))
          obtain ⟨pt,hpt⟩:∃ pt,(pch (sdL pbx i) q)[t]? =some pt:=⟨_,List.getElem?_eq_getElem (by rw [pbY];exact hlt2)⟩
          obtain ⟨pb,rfl,hpcell⟩:=(Sl.of_digs (pbY _ _) hrow).get hpt
          have hpb:pb≠cb:=HPN.out pb (by simp [foot,Value.ownBlock])
          have hptl:pt<Qn:=pdB pt (List.mem_of_getElem? hpt)
          obtain ⟨ct,hct⟩:∃ ct,ct=pb9 q i t:=⟨_,rfl⟩
          have hctl:ct<Qn:=by rw [hct];exact phT _ _ _
          have hcc:=HGT.out.cell (pji (q:=q) (i:=i) hlt2)
          rw [← hct] at hcc
          obtain ⟨c7,f7⟩:=hcc
          have HCN:Hid (pb9 q (i+1) t=(ct+pt) % Qn):=by
           show _=_
           rw [hct,pb9,List.getD_eq_getElem?_getD,hpt]
           rfl
          have HPC:=Lib.hid hpcell
          have hpl:pb<wr.heap.size:=World.block_lt_of_cell? _ _ hpcell
          have HK:Hid (∀ W,Upd [] [] wr W→W.cell? ⟨g5,2,none⟩=some (.slice (some ⟨cb,0,none⟩) q cap)∧W.cell? ⟨pb,t,none⟩=some (.int .i64 (pt:Int))):=fun W u =>
           ⟨cell_of_row _ g5 2 _ _ _ (paa HGT.out.row u),(u.cell (p:=⟨pb,t,none⟩) hpl (by simp)).trans HPC.out⟩
          have ud0:Upd [] [] wr wr.drew:=(Upd.refl _ _).drew
          have t0:(0:Int)≤(t:Int):=by omega
          have t1:(t:Int)<(q:Int):=by omega
          have hct9:ct≤9223372036854775807:=by unfold Qn at hctl;omega
          have hpt9:pt≤9223372036854775807:=by unfold Qn at hptl;omega
          clear hrow hpt hct hpcell hctl hptl hpl
          go_upto_region 16 with (fail)
          refine wp_region_noPanic ?_
          refine wp_region_held_drew (S:=fun wp=>wp.cell? ⟨g5,2,none⟩=some (.slice (some ⟨cb,0,none⟩) q cap)∧wp.cell? ⟨pb,t,none⟩=some (.int .i64 (pt:Int))) (by kernel_rfl) ?_ (fun hHeld=>?_)
          · exact HK.out _ ud0
          refine tkY 0 hHeld ?_
          refine tkY 1 hHeld ?_
          refine tkY 2 hHeld ?_
          refine tkY 3 hHeld ?_
          refine tkY 4 hHeld ?_
          refine tkY 5 hHeld ?_
          refine tkY 6 hHeld ?_
          refine tkY 8 hHeld ?_
          refine tkY 9 hHeld ?_
          refine tkY 10 hHeld ?_
          refine tkY 11 hHeld ?_
          refine tk1 7 fun K hK=>?_
          go_simp
          refine tkK hK (HK.out _ ud0) fun hHeld=>?_
          clear hK K
          refine tk1 12 fun K hK=>?_
          go_simp;refine (pja ct pt _ hct9 hpt9).mono ?_;rintro e wv1 ⟨r,HR,hr,rfl,rfl⟩;have HSE:Hid ((pby q i t).set t r=pby q i (t+1)):=(by show _=_;rw [← pjj hlt2,HCN.out,HR.out]);have hfn:=(HGT.out.set (x:=r) hlt2).quiet ((Upd.refl [] _).drew);rw [HSE.out] at hfn;have HFN:=Lib.hid hfn;have HFU:=Lib.hid ((HUT.out.setCell (p:=⟨cb,t,none⟩) (by simp) (.int .i64 (r:Int))).drew);clear hfn;go_wp2_with fail
          refine tkK hK (HK.out _ ud0) fun hHeld=>?_
          clear hK K
          refine tkY 13 hHeld ?_
          refine tk1 14 fun K hK=>?_
          go_simp
          refine tkK hK (⟨(World.cell?_setCell_other wr _ _ _ (fun e=>absurd (Addr.mk.inj e).1 (by have:=HGT.out.base;omega))).trans (HK.out wr (Upd.refl _ _)).1,(World.cell?_setCell_other wr _ _ _ (fun e=>hpb (Addr.mk.inj e).1.symm)).trans (HK.out wr (Upd.refl _ _)).2⟩) fun hHeld=>?_
          clear hK K
          refine wpAnyH_done (by kernel_rfl) ?_ _
          refine NoPanic.normal ?_
          go_wp2_with fail
          exact ⟨⟨t+1,by go_num,by omega,HFN.out,HFU.out⟩,(by first | (simp [intOf];done) | (simp [intOf];omega))⟩
        · obtain rfl:t=q:=by omega
          have hgn:=HGT.out
          rw [pjg] at hgn
          have HGN:=Lib.hid hgn
          have HUN:=Lib.hid (HUI7.out.trans HUT.out)
          have x2:¬ (t:Int)<(t:Int):=by omega
          clear hgn HGT HUT
          go_wp2_with fail
          exact ⟨⟨i+1,by go_num,by omega,HGN.out,HUN.out⟩,(by first | (simp [intOf];done) | (simp [intOf];omega))⟩
     · obtain rfl:n=i:=by omega
       have HDR:Hid (DsRd wr dv (dsN ws pbx n)):=HDV.out wr (fun x h1 h2=>HUI.out.block x h2 (by have:=HCB.out;simp;omega))
       have d0:wr.cell? ⟨g5,0,none⟩=some (.slice la n lc):=cell_of_row _ g5 0 _ _ _ HGI.out.row
       have x2:¬ (n:Int)<(n:Int):=by omega
       go_wp2_with fail
       refine (pld (.slice la n lc) dv ws (dsN ws pbx n) wr HWS.out (HCR1.out.upd HGI.out.up) HDR.out (pkn HWS.out pbx n) (by rw [pm2,HWL.out])).mono ?_
       rintro e w8 ⟨c,p,HKC,HKP,HON,rfl,hq⟩
       have HGI8:=Lib.hid (HGI.out.quiet hq)
       have HWR:Hid (wr.heap.size≤w8.heap.size∧g5<wr.heap.size∧w1.heap.size≤wr.heap.size):=⟨hq.size,pag HGI.out.row,HGI.out.up.size⟩
       have HB5:=Lib.hid HGI.out.base
       have HRW:Hid (gR<w0.heap.size∧w0.heap.size≤w1.heap.size):=⟨pag s0.out,by have h1:=HUW0.out;exact h1⟩
       obtain ⟨KV,hKV⟩:∃ KV:Array Value,KV=#[c,p]:=⟨_,rfl⟩
       rw [← hKV]
       have HKI:Hid ((Tryz.prog.info? 28).map (·.size)=some KV.size):=by rw [hKV];exact pm4 c p
       have HKO:Hid (KV.all (·.oneCell')=true):=by
        show _=_
        rw [hKV,Array.all_eq_true_iff_forall_mem]
        intro x hx
        have hx':x=c∨x=p:=by simpa using hx
        rcases hx' with e | e <;> rw [e]
        · exact HON.out.1
        · exact HON.out.2
       have TH:Hid (w8.there g5 3 KV.size):=pbq HGI8.out.row (by rw [hKV];exact (by decide:3+2≤5))
       obtain ⟨w9,hw9⟩:∃ W,w8.setCells g5 3 KV.toList=W:=⟨_,rfl⟩
       obtain ⟨GF,hGF⟩:∃ GF,GF=grV (.slice la n lc) S (.slice (some ⟨cb,0,none⟩) q cap) c p:=⟨_,rfl⟩
       have R9:Hid (w9.heap[g5]? =some (.cells GF 32 (0,0))):=by
        show _=_
        rw [← hw9,hKV,hGF]
        exact heap_setCell_same _ g5 4 _ _ p (heap_setCell_same w8 g5 3 _ _ c HGI8.out.row)
       have u9:Upd [g5] [g5] w8 w9:=by rw [← hw9];exact Upd.setCellsIn (by simp) _ _ _ (Upd.refl _ _)
       have hgne:gR≠g5:=by have:=HB5.out;omega
       have S9:Hid (w9.heap[gR]? =some (.cells grZ 32 (0,0))):=(u9.block gR (pag HGI8.out.res) (by simpa using hgne)).trans HGI8.out.res
       have HGI3:Hid ((Tryz.prog.info? 32).map (·.size)=some GF.size):=by rw [hGF];exact pm5 _ _ _ _ _
       have HGZ3:Hid (grZ.size=GF.size):=by show _=_;rw [hGF];rfl
       have HSV2:=HSV
       have HGO3:Hid (GF.all (·.oneCell')=true):=by
        show _=_
        rw [hGF,HSV.out,Array.all_eq_true_iff_forall_mem]
        intro x hx
        have hx':x=.slice la n lc∨x=.slice sa n sc∨x=.slice (some ⟨cb,0,none⟩) q cap∨x=c∨x=p:=by simpa [grV] using hx
        rcases hx' with e | e | e | e | e <;> rw [e]
        · rfl
        · rfl
        · rfl
        · exact HON.out.1
        · exact HON.out.2
       obtain ⟨w10,hw10⟩:∃ W,w9.setRow gR GF=W:=⟨_,rfl⟩
       have S10:=Lib.hid (show w10.heap[gR]? =some (.cells GF 32 (0,0)) by rw [← hw10];exact setRow_heap _ _ _ _ _ _ S9.out)
       have hsame8:∀ x,x<w8.heap.size→x≠gR→x≠g5→w10.heap[x]? =w8.heap[x]?:=fun x h1 h2 h3=>by
        rw [← hw10]
        exact (setRow_other _ _ _ _ h2).trans (u9.block x h1 (by simpa using h3))
       have hup8:=HGI8.out.up
       have hold:∀ x,w0.heap.size≤x→x<w1.heap.size→w10.heap[x]? =w1.heap[x]?:=fun x h1 h2=>by
        have h3:=HRW.out
        have h4:=HB5.out
        have h5:=hup8.size
        exact (hsame8 x (by omega) (by omega) (by omega)).trans (hup8.block x h2 (by simp))
       have hsz10:w8.heap.size≤w10.heap.size:=by rw [← hw10];have:=u9.size;simpa using this
       have hw01:=u0.out.size
       have HAG:Hid (∀ W,paB w w10 W→(∀ x,w0.heap.size≤x→x<w1.heap.size→W.heap[x]? =w1.heap[x]?)∧paB wr w8 W∧W.heap[cb]? =w8.heap[cb]?):=by
        intro W hW
        have h3:=HRW.out
        have h4:=HB5.out
        have h5:=hup8.size
        have h6:=HWR.out
        have h7:=u0.out.size
        have hcb8:cb<w8.heap.size:=by obtain ⟨cur,hc,_⟩:=HGI8.out.co;exact pag hc
        exact ⟨fun x h1 h2=>(hW x (by omega) (by omega)).trans (hold x h1 h2),fun x h1 h2=>(hW x (by omega) (by omega)).trans (hsame8 x h2 (by omega) (by omega)),(hW cb (by omega) (by omega)).trans (hsame8 cb hcb8 (by omega) (by omega))⟩
       have HFL:Hid (∀ W,paB w w10 W→pb7 W (.slice la n lc) ws):=fun W hW=>by
        have h:=pai (w':=W) HLR.out (fun x hx=>(HAG.out W hW).1 x (HNW0.out x (.inl hx)) (paf HLR.out x hx))
        obtain ⟨la',lc',e,h1,h2,hM⟩:=pd7 (pdp l (pax l)) h
        rw [← HNN.out] at e h1 hM
        refine ⟨la',lc',by rw [e,HWL.out],by rw [HWL.out];exact h1,Nat.le_trans h2 (by unfold maxLen;omega),?_⟩
        rw [HWW.out,← pfl]
        exact hM
       have HFS:Hid (∀ W,paB w w10 W→Sl W S (pbQ n)):=fun W hW=>by
        rw [HNN.out]
        exact Sl.of_digs (pd8 _) (pai (w':=W) HSR.out (fun x hx=>(HAG.out W hW).1 x (HNW0.out x (.inr hx)) (paf HSR.out x hx)))
       have HFC:Hid (∀ W,paB w w10 W→Sl W c (mixL (dsN ws pbx n) (needN ws.sum))):=fun W hW=>HKC.out W (HAG.out W hW).2.1
       have HFP:Hid (∀ W,paB w w10 W→pdr W p (pcH ws)):=fun W hW=>HKP.out W (HAG.out W hW).2.1
       have HFQ:Hid (∀ W,paB w w10 W→Sl W (.slice (some ⟨cb,0,none⟩) q cap) (pbm q n)):=fun W hW=>by
        obtain ⟨cur,hc,hc2,hc3⟩:=HGI8.out.co
        have h5:=(HAG.out W hW).2.2.trans hc
        refine Sl.of_digs (pbU q n) ⟨by simp [pah,pbU],.inr ⟨cb,cap,cur,rfl,Nat.zero_le _,h5,HGI8.out.fit.1,HGI8.out.fit.2,?_,?_⟩⟩
        · omega
        · simpa using hc2
       have HUF:Hid (Upd [] [] w w10):=by
        rw [← hw10]
        have h4:=HB5.out
        exact ((U1.out.trans hup8).past2 u9 (fun x hx=>by have:=U1.out.size;simp at hx;omega)).setRowNew HG.out GF
       have HGF:=Lib.hid hGF
       have HW9:=Lib.hid hw9
       have HW10:=Lib.hid hw10
       clear hq hKV hGF hw9 hw10 hsame8 hup8 hold hsz10 hw01 u9 HKC HKP HON HDR d0 HGI HUI
       go_wp2_with (first | (refine wpList_store_midAs rfl 28 _ _ rfl g5 3 KV rfl rfl TH.out HKI.out HKO.out w9 HW9.out ?_) | (refine wpList_load_row rfl 32 _ rfl g5 rfl _ GF _ _ R9.out Tryz.underlying32 rfl HGI3.out ?_) | (refine wpList_store_rowAs rfl 32 _ _ rfl gR GF rfl rfl _ _ S9.out HGI3.out HGZ3.out HGO3.out w10 HW10.out ?_))
       refine bodyPost_ret (results_cell_row rfl _ _ gR _ GF _ _ rfl S10.out Tryz.underlying32 rfl HGI3.out) rfl ?_
       have e1:wsN l (pax l)=ws:=by rw [HWW.out,HNN.out]
       refine ⟨.slice la n lc,S,.slice (some ⟨cb,0,none⟩) q cap,c,p,fun W hW=>⟨?_,?_,?_,?_,?_⟩,by rw [HGF.out],HUF.out⟩
       · rw [e1];exact HFL.out W hW
       · rw [← HNN.out];exact HFS.out W hW
       · rw [e1,← HT.out,← HQ.out,← HNN.out];exact HFQ.out W hW
       · rw [e1,← HNN.out]
         exact HFC.out W hW
       · rw [e1];exact HFP.out W hW

end Go.Proofs.YtheobkejohifaaaGreatDoor
