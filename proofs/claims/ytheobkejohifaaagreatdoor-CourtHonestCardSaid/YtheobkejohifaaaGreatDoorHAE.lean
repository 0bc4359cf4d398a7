/- Slices of ints and of strings, to be read and what follows. -/
import Derived.Test.YtheobkejohifaaaGreatDoorHAD
import Derived.Test.YtheobkejohifaaaGreatDoorHAC
import Derived.Lib.Join
import Derived.Test.YtheobkejohifaaaGreatDoorHAA
import Derived.Lib.Hide
namespace Go.Proofs.YtheobkejohifaaaGreatDoor
open Go.RowKit
set_option maxRecDepth 100000
def pcw (l:List Int):List Value:=l.map fun x=>Value.int .i64 x
theorem phv (l:List Int) (x:Int):pcw (l ++ [x])=pcw l ++ [.int .i64 x]:=by simp [pcw]
def RdI (w:World) (v:Value) (l:List Int):Prop:=∃ ao cap,v=.slice ao l.length cap∧l.length≤cap∧cap≤maxLen∧∀ (k:Nat) x,l[k]? =some x→∃ g,ao=some ⟨g,0,none⟩∧g<w.heap.size∧w.cell? ⟨g,k,none⟩=some (.int .i64 x)
theorem RdI.nil (w:World):RdI w (.slice none 0 0) []:=⟨none,0,rfl,Nat.le_refl _,by simp,fun k x h=>by simp at h⟩
theorem RdI.upd {w w':World} {v:Value} {l:List Int} (h:RdI w v l) (u:Upd [] [] w w'):RdI w' v l:=by
 obtain ⟨ao,cap,rfl,h1,h2,h3⟩:=h
 refine ⟨ao,cap,rfl,h1,h2,fun k x hk=>?_⟩
 obtain ⟨g,e,hg,hc⟩:=h3 k x hk
 exact ⟨g,e,Nat.lt_of_lt_of_le hg u.size,(u.cell hg (by simp)).trans hc⟩
theorem RdI.of_row {w:World} {v:Value} {l:List Int} {t:TypeId} (h:w.ownsRow 0 t 1 v l.length (pcw l)):RdI w v l:=by
 by_cases h0:l.length=0
 · obtain ⟨ao,cap,rfl,h1,h2⟩:=paj h
   exact ⟨ao,cap,rfl,h1,h2,fun k x hk=>by have:=(List.getElem?_eq_some_iff.1 hk).1;omega⟩
 · obtain ⟨g,cap,cur,rfl,hg,h1,h2,h3,h4⟩:=pcd h (by omega)
   refine ⟨_,cap,rfl,h1,h2,fun k x hk=>⟨g,rfl,(Array.getElem?_eq_some_iff.1 hg).1,?_⟩⟩
   have hjl:=(List.getElem?_eq_some_iff.1 hk).1
   rw [cell_of_row w g k _ _ _ hg]
   have e:(pcw l)[k]? =some (.int .i64 x):=by simp [pcw,hk]
   rw [← h4,Nat.mul_one,List.getElem?_take_of_lt hjl] at e
   simpa using e
theorem RdI.form {w:World} {v:Value} {l:List Int} (h:RdI w v l):∃ ao cap,v=.slice ao l.length cap∧l.length≤cap∧cap≤9223372036854775807∧∀ (k:Nat) x,l[k]? =some x→∃ g,ao=some ⟨g,0,none⟩∧g<w.heap.size∧w.cell? ⟨g,k,none⟩=some (.int .i64 x):=by
 obtain ⟨ao,cap,e,h1,h2,h3⟩:=h
 exact ⟨ao,cap,e,h1,h2,h3⟩
def RdO (w:World) (v:Value) (l:List Int):Prop:=∃ ao cap,v=.slice ao l.length cap∧l.length≤cap∧cap≤maxLen∧∀ (k:Nat) x,l[k]? =some x→∃ g o,ao=some ⟨g,o,none⟩∧g<w.heap.size∧w.cell? ⟨g,o+k,none⟩=some (.int .i64 x)
theorem RdO.upd {w w':World} {v:Value} {l:List Int} (h:RdO w v l) (u:Upd [] [] w w'):RdO w' v l:=by
 obtain ⟨ao,cap,rfl,h1,h2,h3⟩:=h
 refine ⟨ao,cap,rfl,h1,h2,fun k x hk=>?_⟩
 obtain ⟨g,o,e,hg,hc⟩:=h3 k x hk
 exact ⟨g,o,e,Nat.lt_of_lt_of_le hg u.size,(u.cell (p:=⟨g,o+k,none⟩) hg (by simp)).trans hc⟩
theorem RdO.form {w:World} {v:Value} {l:List Int} (h:RdO w v l):∃ ao cap,v=.slice ao l.length cap∧l.length≤cap∧cap≤9223372036854775807∧∀ (k:Nat) x,l[k]? =some x→∃ g o,ao=some ⟨g,o,none⟩∧g<w.heap.size∧w.cell? ⟨g,o+k,none⟩=some (.int .i64 x):=by
 obtain ⟨ao,cap,e,h1,h2,h3⟩:=h
 exact ⟨ao,cap,e,h1,h2,h3⟩
def RdS (w:World) (v:Value) (l:List (List UInt8)):Prop:=∃ ao cap,v=.slice ao l.length cap∧l.length≤cap∧cap≤maxLen∧∀ (k:Nat) x,l[k]? =some x→∃ g,ao=some ⟨g,0,none⟩∧g<w.heap.size∧w.cell? ⟨g,k,none⟩=some (strV x)
theorem RdS.nil (w:World):RdS w (.slice none 0 0) []:=⟨none,0,rfl,Nat.le_refl _,by simp,fun k x h=>by simp at h⟩
theorem RdS.upd {w w':World} {v:Value} {l:List (List UInt8)} (h:RdS w v l) (u:Upd [] [] w w'):RdS w' v l:=by
 obtain ⟨ao,cap,rfl,h1,h2,h3⟩:=h
 refine ⟨ao,cap,rfl,h1,h2,fun k x hk=>?_⟩
 obtain ⟨g,e,hg,hc⟩:=h3 k x hk
 exact ⟨g,e,Nat.lt_of_lt_of_le hg u.size,(u.cell hg (by simp)).trans hc⟩
theorem RdS.of_row {w:World} {v:Value} {l:List (List UInt8)} (h:paN w v l):RdS w v l:=by
 by_cases h0:l.length=0
 · obtain ⟨ao,cap,rfl,h1,h2⟩:=paj h
   exact ⟨ao,cap,rfl,h1,h2,fun k x hk=>by have:=(List.getElem?_eq_some_iff.1 hk).1;omega⟩
 · obtain ⟨g,cap,cur,rfl,hg,h1,h2,h3,h4⟩:=pcd h (by omega)
   refine ⟨_,cap,rfl,h1,h2,fun k x hk=>⟨g,rfl,(Array.getElem?_eq_some_iff.1 hg).1,?_⟩⟩
   have hjl:=(List.getElem?_eq_some_iff.1 hk).1
   rw [cell_of_row w g k _ _ _ hg]
   have e:(pcv l)[k]? =some (strV x):=by simp [pcv,hk]
   rw [← h4,Nat.mul_one,List.getElem?_take_of_lt hjl] at e
   simpa using e
theorem RdS.form {w:World} {v:Value} {l:List (List UInt8)} (h:RdS w v l):∃ ao cap,v=.slice ao l.length cap∧l.length≤cap∧cap≤9223372036854775807∧∀ (k:Nat) x,l[k]? =some x→∃ g,ao=some ⟨g,0,none⟩∧g<w.heap.size∧w.cell? ⟨g,k,none⟩=some (strV x):=by
 obtain ⟨ao,cap,e,h1,h2,h3⟩:=h
 exact ⟨ao,cap,e,h1,h2,h3⟩
end Go.Proofs.YtheobkejohifaaaGreatDoor

namespace Go.Proofs.YtheobkejohifaaaGreatDoor
open Go.ChangeShapes Go.WideShapes Go.ChangeAt Go.RowKit Go.Deep Go.Joins
set_option maxRecDepth 100000
section
variable {H : Type} {enc : TypeId × Value → H} {w : World}
theorem pkV {v:Value} {d:DataW H} {p:List MemPlace} {r:Reach} {b0:Nat} (hv:Value.okWide Tryz.prog w r b0 22 v) (h:DataW.Trod enc Tryz.prog w 0 (fun _=>true) true 22 v d p):∃ l,RdO w v l∧(∀ x∈l,pab x)∧l.length≤9223372036854775807:=by
 have hk:flatK Tryz.prog 8 3=some [.i .i64]:=by kernel_rfl
 obtain ⟨ao,len,cap,rfl,hl,hm,hr⟩:=plU Tryz.underlying22 hk (by simp) (by kernel_rfl) hv h
 rcases hr with rfl | ⟨b,off,rfl,hb,hi⟩
 · exact ⟨[],⟨ao,cap,rfl,by simp,hm,fun k x hx=>by simp at hx⟩,(fun x hx=>by cases hx),by simp⟩
 · have hA:∀ i,i<len→∃ x:Int,pab x∧w.cell? ⟨b,off+i,none⟩=some (.int .i64 x):=by
    intro i hil
    obtain ⟨cs,hM,hat⟩:=hi i hil
    obtain ⟨x,hx,wx⟩:=hM.i64 (i:=0) rfl
    refine ⟨x,wx,?_⟩
    have:=hat 0 _ hx
    simpa using this
   obtain ⟨f,hfA⟩:=choose_lt hA
   refine ⟨(List.range len).map f,⟨some ⟨b,off,none⟩,cap,by simp,by simp;exact hl,hm,fun k x hx=>?_⟩,fun x hx=>?_,by simp;omega⟩
   · have hkl:k<len:=by
      have:=(List.getElem?_eq_some_iff.1 hx).1
      simpa using this
     simp only [List.getElem?_map,List.getElem?_range hkl,Option.map_some,Option.some.injEq] at hx
     subst hx
     exact ⟨b,off,rfl,hb,(hfA k hkl).2⟩
   · obtain ⟨k,hk,rfl⟩:=List.mem_map.1 hx
     exact (hfA k (List.mem_range.1 hk)).1
end
end Go.Proofs.YtheobkejohifaaaGreatDoor

namespace Go.Proofs.YtheobkejohifaaaGreatDoor
open Go.ChangeShapes Go.WideShapes Go.ChangeAt Go.RowKit Go.Deep Go.Joins
set_option maxRecDepth 100000
section
variable {H : Type} {enc : TypeId × Value → H} {P : Program} {w : World} {base : Nat} {sp : Nat → Bool} {hd : Bool}
theorem plV {t:TypeId} {v:Value} {d:DataW H} {p:List MemPlace} {r:Reach} {b0:Nat} (f:Nat) (hk:flatK P f t=some [.i .u8,.i .u8,.i .u8,.i .u8]) (hv:Value.okWide P w r b0 t v) (h:DataW.Trod enc P w base sp hd t v d p) (ha:(∃ n e,P.underlying t=some (.array n e))∨∃ fs,P.underlying t=some (.struct fs)) :
 ∃ a b c e:Int,v=.agg #[.int .u8 a,.int .u8 b,.int .u8 c,.int .u8 e]∧(0≤a∧a≤255)∧(0≤b∧b≤255)∧(0≤c∧c≤255)∧(0≤e∧e≤255):=by
 obtain ⟨cs,rfl,hm⟩:=plT f hk hv h ha
 obtain ⟨a,ha,wa⟩:=hm.u8 (i:=0) rfl
 obtain ⟨b,hb,wb⟩:=hm.u8 (i:=1) rfl
 obtain ⟨c,hc,wc⟩:=hm.u8 (i:=2) rfl
 obtain ⟨e,he,we⟩:=hm.u8 (i:=3) rfl
 have hl:cs.toList.length=4:=hm.1
 refine ⟨a,b,c,e,?_,wa,wb,wc,we⟩
 congr 1
 apply Array.ext'
 match h:cs.toList,hl with
 | [x,y,z,u],_ =>
  rw [h] at ha hb hc he
  simp at ha hb hc he
  rw [ha,hb,hc,he]
end
end Go.Proofs.YtheobkejohifaaaGreatDoor

namespace Go.Proofs.YtheobkejohifaaaGreatDoor
set_option maxRecDepth 100000
def pjR (w:List UInt8) (xs:List Int):List UInt8:=w ++ [47] ++ Lib.join (xs.map Lib.itoa) [47]
def pei (w:List UInt8) (xs:List Int):Nat:=pc9 (pjR w xs)
def pqG:List UInt8:=[110,111,110,99,101]
def plW:List UInt8:=[101,113,117,97,108]
def pP (a n:Nat):Nat:=a ^ n % Pn
theorem prq (a n:Nat):pP a n<Pn:=Nat.mod_lt _ plQ
def nonceE (x g h:Nat):Nat:=pei pqG [(x:Int),(g:Int),(h:Int)]
def pkW (g a h b r s:Nat):Nat:=pei plW [(g:Int),(a:Int),(h:Int),(b:Int),(r:Int),(s:Int)]
theorem pjS (g a h b r s:Nat):pkW g a h b r s<Qn:=peF _
def cWith (x g h k:Nat):Nat:=pkW g (pP g x) h (pP h x) (pP g k) (pP h k)
def zWith (x g h k:Nat):Nat:=(k+cWith x g h k * x) % Qn
def pfD (base a c z:Nat):Nat:=pP base z * pP a (Qn - c) % Pn
def verE (g a h b c z:Int):Bool :=
 memB g && memB a && memB h && memB b && decide (0≤c) && decide (c<1152921504606845789) && decide (0≤z) && decide (z<1152921504606845789) &&
  decide (c.toNat=pkW g.toNat a.toNat h.toNat b.toNat (pfD g.toNat a.toNat c.toNat z.toNat) (pfD h.toNat b.toNat c.toNat z.toNat))
theorem plX (g a h b c z:Nat):verE (g:Int) (a:Int) (h:Int) (b:Int) (c:Int) (z:Int)=true ↔
 memN g∧memN a∧memN h∧memN b∧c<Qn∧z<Qn∧c=pkW g a h b (pfD g a c z) (pfD h b c z):=by
 unfold verE
 have e1:(decide (0≤(c:Int))=true):=by rw [decide_eq_true_iff];omega
 have e2:(decide (0≤(z:Int))=true):=by rw [decide_eq_true_iff];omega
 have e3:(decide ((c:Int)<1152921504606845789)=true) ↔ c<Qn:=by rw [decide_eq_true_iff];unfold Qn;omega
 have e4:(decide ((z:Int)<1152921504606845789)=true) ↔ z<Qn:=by rw [decide_eq_true_iff];unfold Qn;omega
 simp only [Bool.and_eq_true,pbu,Int.toNat_natCast,e3,e4]
 rw [e1,e2]
 simp only [and_true,decide_eq_true_eq,and_assoc]
theorem ppf {g:Nat} (hg:memN g) (x:Nat):memN (pP g x):=pgB hg.2.2 x
theorem phw {g:Nat} (hg:memN g) (x k c:Nat) (hc:c≤Qn):pfD g (pP g x) c ((k+c * x) % Qn)=pP g k:=by
 unfold pfD pP
 rw [← piM hg.2.2,Nat.mul_mod_mod,Nat.mod_mul_mod,Nat.mul_mod,pbo,← Nat.mul_mod,← Nat.pow_mul,← Nat.pow_add]
 have e:k+c * x+x * (Qn - c)=k+Qn * x:=by
  have h1:x * (Qn - c)+x * c=x * Qn:=by rw [← Nat.mul_add,Nat.sub_add_cancel hc]
  have h2:c * x=x * c:=Nat.mul_comm _ _
  have h3:Qn * x=x * Qn:=Nat.mul_comm _ _
  omega
 rw [e,Nat.pow_add,Nat.pow_mul,Nat.mul_mod,Nat.pow_mod (g ^ Qn),hg.2.2,Nat.one_pow,Nat.mod_eq_of_lt ppe,Nat.mul_one,Nat.mod_mod]
theorem plY {g h:Nat} (hg:memN g) (hh:memN h) (x k:Nat):verE (g:Int) (pP g x:Int) (h:Int) (pP h x:Int) (cWith x g h k:Int) (zWith x g h k:Int)=true:=by
 rw [plX]
 have hc:cWith x g h k<Qn:=pjS _ _ _ _ _ _
 refine ⟨hg,ppf hg x,hh,ppf hh x,hc,Nat.mod_lt _ peg,?_⟩
 unfold zWith
 rw [phw hg x k _ (by omega),phw hh x k _ (by omega)]
 rfl
theorem pob {x:Nat} (h1:1≤x) (h2:x<Pn):memN (x * x % Pn):=by
 have hd:¬ Pn ∣ x:=fun h=>by have:=Nat.le_of_dvd (by omega) h;omega
 have e:(x * x % Pn) ^ Qn % Pn=1:=by rw [pbo];exact pgy hd
 refine ⟨?_,Nat.mod_lt _ plQ,e⟩
 by_cases h0:x * x % Pn=0
 · rw [h0,Nat.zero_pow peg,Nat.zero_mod] at e
   omega
 · omega
def prr (n:Nat):Nat:=(n+1) * (n+1) % Pn
end Go.Proofs.YtheobkejohifaaaGreatDoor

namespace Go.Proofs.YtheobkejohifaaaGreatDoor
open Go.RowKit
set_option maxRecDepth 100000
def needN (t:Nat):Nat:=if t=0 then 0 else (t - 1) / 3+1
theorem pcg {t:Nat} (h:0<t):1≤needN t∧needN t≤t:=by
 unfold needN
 split <;> omega
def valN (l:List Nat) (x:Nat):Nat:=l.foldr (fun c s=>(s * x % Qn+c) % Qn) 0
def padB (key idx:Nat):List UInt8:=sha ([98,111,120,47] ++ Lib.itoa (key:Int) ++ [47] ++ Lib.itoa (idx:Int))
theorem peH (key idx:Nat):(padB key idx).length=32:=pcf _
def boxL (y key idx:Nat):List UInt8:=List.zipWith (· ^^^ ·) (len8 y) ((padB key idx).take 8) ++ ((padB key idx).drop 8).take 8
theorem pgG (y key idx:Nat):(boxL y key idx).length=16:=by simp [boxL,pas,peH]
structure Dl where
 coms:List Nat
 point:Nat
 boxes:List (List UInt8)
def pda (coefs keys:List Nat) (seed:List UInt8):Dl :=
 ⟨coefs.map gP,gP (pc9 ([112,111,105,110,116,47] ++ seed)),(List.range keys.length).map fun i=>boxL (valN coefs (i+1)) (pP (keys.getD i 0) (pc9 ([112,111,105,110,116,47] ++ seed))) i⟩
def ppD (i:Nat) (seed:List UInt8):List UInt8:=[99,111,101,102,102,105,99,105,101,110,116,32] ++ Lib.itoa (i:Int) ++ [32,111,102,32] ++ seed
def pch (seed:List UInt8) (need:Nat):List Nat:=(List.range need).map fun i=>pc9 (ppD i seed)
theorem pbY (seed:List UInt8) (need:Nat):(pch seed need).length=need:=by simp [pch]
theorem pdB {seed:List UInt8} {need:Nat}:∀ c∈pch seed need,c<Qn:=by
 intro c h
 simp only [pch,List.mem_map] at h
 obtain ⟨i,_,rfl⟩:=h
 exact peF _
theorem pkX (coefs keys:List Nat) (seed:List UInt8):(pda coefs keys seed).coms.length=coefs.length:=by simp [pda]
theorem piO (coefs keys:List Nat) (seed:List UInt8):(pda coefs keys seed).boxes.length=keys.length:=by simp [pda]
theorem plZ {coefs keys:List Nat} {seed:List UInt8}:∀ b∈(pda coefs keys seed).boxes,b.length=16:=by
 intro b h
 simp only [pda,List.mem_map] at h
 obtain ⟨i,_,rfl⟩:=h
 exact pgG _ _ _
theorem pl0 {coefs keys:List Nat} {seed:List UInt8}:∀ b∈(pda coefs keys seed).coms,memN b:=by
 intro b h
 simp only [pda,List.mem_map] at h
 obtain ⟨i,_,rfl⟩:=h
 exact pe0 _
theorem piP {coefs keys:List Nat} {seed:List UInt8}:memN (pda coefs keys seed).point:=pe0 _
end Go.Proofs.YtheobkejohifaaaGreatDoor

namespace Go.Proofs.YtheobkejohifaaaGreatDoor
structure Mem where
 id:Int
 weight:Int
 pub:Int
end Go.Proofs.YtheobkejohifaaaGreatDoor

namespace Go.Proofs.YtheobkejohifaaaGreatDoor
open Go.RowKit
set_option maxRecDepth 100000
def nxtN (l:List Int) (k n:Nat):Nat:=match l[k]? with
 | some x=>(x % (n:Int)).toNat
 | none=>0
theorem pgH (l:List Int) (k n:Nat) (hn:0<n):nxtN l k n<n:=by
 unfold nxtN
 split
 · have:=Int.emod_lt_of_pos (‹Int›) (show (0:Int)<n by omega)
   have:=Int.emod_nonneg (‹Int›) (show (n:Int)≠0 by omega)
   omega
 · exact hn
theorem pl1 {l:List Int} {k n:Nat} {x:Int} (h:l[k]? =some x) (hn:0<n):((nxtN l k n:Nat):Int)=x % (n:Int):=by
 unfold nxtN
 rw [h]
 have:=Int.emod_nonneg x (show (n:Int)≠0 by omega)
 show ((x % (n:Int)).toNat:Int)=_
 omega
theorem pe6 {l:List Int} {k n:Nat} (h:l.length≤k):nxtN l k n=0:=by
 unfold nxtN
 rw [List.getElem?_eq_none h]
def ppE (i:Nat):List UInt8:=[109,101,109,98,101,114,32] ++ Lib.itoa (i:Int)
def secN (i:Nat):Nat:=keyN (ppE (i+1))
def memC (i w:Nat):Mem:=⟨((i+1:Nat):Int),(w:Int),(gP (secN i):Int)⟩
def pdc (ws:List Nat):List Mem:=(List.range ws.length).map fun i=>memC i (ws.getD i 0)
def pbQ (n:Nat):List Nat:=(List.range n).map secN
def pax (l:List Int):Nat:=1+nxtN l 0 4
def wsN (l:List Int) (n:Nat):List Nat:=(List.range n).map fun i=>1+nxtN l (i+1) 3
def WsOk (ws:List Nat):Prop:=1≤ws.length∧ws.length≤4∧∀ w∈ws,1≤w∧w≤3
theorem pfX (l:List Int):WsOk (wsN l (pax l)):=by
 have h:=pgH l 0 4 (by omega)
 refine ⟨by simp [wsN,pax],by simp [wsN,pax];omega,fun w hw=>?_⟩
 simp only [wsN,List.mem_map] at hw
 obtain ⟨i,_,rfl⟩:=hw
 have:=pgH l (i+1) 3 (by omega)
 omega
theorem pfY (ws:List Nat):(pdc ws).length=ws.length:=by simp [pdc]
theorem pbb {ws:List Nat} {i w:Nat} (h:ws[i]? =some w):(pdc ws)[i]? =some (memC i w):=by
 have hi:=(List.getElem?_eq_some_iff.1 h).1
 have e:ws.getD i 0=w:=by rw [List.getD_eq_getElem?_getD,h];rfl
 simp [pdc,hi,← e]
theorem phx:∀ {ws:List Nat},(∀ w∈ws,w≤3)→ws.sum≤3 * ws.length
 | [],_=>by simp
 | w :: r,h=>by
  have:=phx (ws:=r) (fun x hx=>h x (by simp [hx]))
  have:=h w (by simp)
  simp
  omega
theorem WsOk.sum {ws:List Nat} (h:WsOk ws):1≤ws.sum∧ws.sum≤12:=by
 obtain ⟨h1,h2,h3⟩:=h
 have:=phx (fun w hw=>(h3 w hw).2)
 refine ⟨?_,by omega⟩
 match ws,h1 with
 | w :: r,_ =>
  have:=(h3 w (by simp)).1
  simp
  omega
def pbv (ws:List Nat):List Nat:=(List.range ws.length).flatMap fun i=>List.replicate (ws.getD i 0) (gP (secN i))
def startN (ws:List Nat) (i:Nat):Nat:=(ws.take i).sum
def pcH (ws:List Nat):List (List Nat):=(List.range ws.length).map fun i=>(List.range (ws.getD i 0)).map fun j=>startN ws i+j+1
end Go.Proofs.YtheobkejohifaaaGreatDoor

namespace Go.Proofs.YtheobkejohifaaaGreatDoor
set_option maxRecDepth 100000
theorem pgI {α:Type} {p:List α→Prop} (h0:p []) (h1:∀ l b,p l→p (l ++ [b])) (l:List α):p l:=by
 rw [← List.reverse_reverse l]
 induction l.reverse with
 | nil=>exact h0
 | cons a r ih=>rw [List.reverse_cons];exact h1 _ _ ih
def natB (l:List UInt8):Nat:=l.foldl (fun a b=>a * 256+b.toNat) 0
theorem pgJ:natB []=0:=rfl
theorem pbk (l:List UInt8) (b:UInt8):natB (l ++ [b])=natB l * 256+b.toNat:=by simp [natB]
theorem pdk (a:List UInt8):∀ b,natB (a ++ b)=natB a * 256 ^ b.length+natB b:=by
 intro b
 induction b using pgI with
 | h0=>simp [pgJ]
 | h1 l b ih =>
  rw [← List.append_assoc,pbk,ih,pbk,List.length_append,List.length_singleton,Nat.pow_succ,Nat.add_mul,Nat.mul_assoc,Nat.add_assoc]
theorem pe7 (a:UInt8) (r:List UInt8):natB (a :: r)=a.toNat * 256 ^ r.length+natB r:=by
 have:=pdk [a] r
 simpa [natB] using this
theorem phy (l:List UInt8) (k:Nat):natB (l.take k)≤natB l:=by
 have h:=pdk (l.take k) (l.drop k)
 rw [List.take_append_drop] at h
 have h1:natB (l.take k) * 1≤natB (l.take k) * 256 ^ (l.drop k).length:=Nat.mul_le_mul_left _ (Nat.pow_pos (by omega))
 omega
theorem pdX (l:List UInt8):natB l<256 ^ l.length:=by
 induction l using pgI with
 | h0=>simp [pgJ]
 | h1 l b ih =>
  have:=b.toNat_lt
  rw [pbk,List.length_append,List.length_singleton,Nat.pow_succ]
  omega
def be (n:Nat):List UInt8:=if n=0 then [] else be (n / 256) ++ [UInt8.ofNat (n % 256)]
termination_by n
decreasing_by omega
theorem pbg:be 0=[]:=by rw [be];rfl
theorem pe8 {n:Nat} (h:0<n):be n=be (n / 256) ++ [UInt8.ofNat (n % 256)]:=by rw [be,if_neg (by omega)]
theorem pl2 (x:Nat) (b:UInt8) (h:0<x * 256+b.toNat):be (x * 256+b.toNat)=be x ++ [b]:=by
 have hb:=b.toNat_lt
 rw [pe8 h,show (x * 256+b.toNat) / 256=x by omega,show (x * 256+b.toNat) % 256=b.toNat by omega,UInt8.ofNat_toNat]
theorem paK (n:Nat):natB (be n)=n:=by
 induction n using Nat.strongRecOn with
 | ind n ih =>
  by_cases h:n=0
  · subst h;rw [pbg];rfl
  · rw [pe8 (by omega),pbk,ih (n / 256) (by omega),UInt8.toNat_ofNat']
    omega
theorem pl3 (n:Nat):n<256 ^ (be n).length:=by
 have:=pdX (be n)
 rwa [paK] at this
theorem paE:∀ (k n:Nat),n<256 ^ k→(be n).length≤k
 | 0,n,h=>by
  have:n=0:=by simpa using h
  subst this;rw [pbg];simp
 | k+1,n,h=>by
  by_cases h0:n=0
  · subst h0;rw [pbg];simp
  · rw [pe8 (by omega),List.length_append,List.length_singleton]
    have:=paE k (n / 256) (by rw [Nat.pow_succ] at h;omega)
    omega
theorem phz {n:Nat} (h:0<n):0<(be n).length:=by
 rw [pe8 h];simp
theorem pcW {n k:Nat} (h:(be n).length≤k):n<256 ^ k:=Nat.lt_of_lt_of_le (pl3 n) (Nat.pow_le_pow_right (by omega) h)
def pbR (l:List UInt8):List UInt8:=l.dropWhile (· == 0)
theorem peI (l:List UInt8):pbR l=be (natB l):=by
 induction l using pgI with
 | h0=>rw [pgJ,pbg];rfl
 | h1 l b ih =>
  rw [pbR,List.dropWhile_append,pbk]
  have ih':List.dropWhile (· == 0) l=be (natB l):=ih
  rw [ih']
  by_cases h0:natB l=0
  · rw [h0,pbg]
    simp only [List.isEmpty_nil,if_true]
    by_cases hb:b=0
    · subst hb
      rw [show 0 * 256+(0:UInt8).toNat=0 from rfl,pbg]
      rfl
    · have hb':0<b.toNat:=by
       rcases Nat.eq_zero_or_pos b.toNat with h | h
       · exact absurd (UInt8.toNat_inj.1 h) hb
       · exact h
      rw [pl2 0 b (by omega),pbg]
      have:(b == 0)=false:=by rw [beq_eq_false_iff_ne];exact hb
      simp [List.dropWhile,this]
  · have hne:(be (natB l)).isEmpty=false:=by
     have:=phz (n:=natB l) (by omega)
     cases hh:be (natB l) with
     | nil=>rw [hh] at this;simp at this
     | cons=>rfl
    rw [hne,pl2 _ _ (by omega)]
    rfl
theorem pfZ {l:List UInt8} {k:Nat} (h:l[k]? =some 0):pbR (l.drop k)=pbR (l.drop (k+1)):=by
 obtain ⟨hk,he⟩:=List.getElem?_eq_some_iff.1 h
 rw [List.drop_eq_getElem_cons hk,he,pbR,List.dropWhile_cons]
 simp [pbR]
theorem pf0 {l:List UInt8} {k:Nat} {b:UInt8} (h:l[k]? =some b) (hb:b≠0):pbR (l.drop k)=l.drop k:=by
 obtain ⟨hk,he⟩:=List.getElem?_eq_some_iff.1 h
 rw [List.drop_eq_getElem_cons hk,he,pbR,List.dropWhile_cons]
 have:(b == 0)=false:=by rw [beq_eq_false_iff_ne];exact hb
 simp [this]
theorem pl4 (n:Nat) (h:n<18446744073709551616):natB (len8 n)=n:=by
 have e:len8 n=[UInt8.ofNat (n / 2 ^ 56),UInt8.ofNat (n / 2 ^ 48),UInt8.ofNat (n / 2 ^ 40),UInt8.ofNat (n / 2 ^ 32),UInt8.ofNat (n / 2 ^ 24),UInt8.ofNat (n / 2 ^ 16),UInt8.ofNat (n / 2 ^ 8),UInt8.ofNat (n / 2 ^ 0)]:=rfl
 rw [e]
 simp only [natB,List.foldl_cons,List.foldl_nil,UInt8.toNat_ofNat']
 omega
theorem pl5 (x:Nat):be (x / 256)=(be x).take ((be x).length - 1):=by
 by_cases h:x=0
 · subst h;rw [show 0 / 256=0 from rfl,pbg];rfl
 · rw [pe8 (n:=x) (by omega)];simp
theorem piQ (x:Nat):be (x / 16777216)=(be x).take ((be x).length - 3):=by
 have e:x / 16777216=x / 256 / 256 / 256:=by omega
 rw [e,pl5 (x / 256 / 256),pl5 (x / 256),pl5 x]
 simp only [List.length_take,List.take_take]
 congr 1
 omega
theorem ppF (x:Nat):natB ((be x).drop ((be x).length - 3))=x % 16777216:=by
 have h:=pdk ((be x).take ((be x).length - 3)) ((be x).drop ((be x).length - 3))
 rw [List.take_append_drop,paK,← piQ,paK,List.length_drop] at h
 by_cases h3:3≤(be x).length
 · rw [show (be x).length - ((be x).length - 3)=3 by omega,show (256:Nat) ^ 3=16777216 from rfl] at h
   omega
 · have hx:x<16777216:=by
    have:=pcW (n:=x) (k:=3) (by omega)
    simpa using this
   rw [show (be x).length - 3=0 by omega,List.drop_zero,paK]
   omega
def valL:List Nat→Nat
 | []=>0
 | d :: r=>d+16777216 * valL r
def okL (l:List Nat):Prop:=∀ d∈l,d<16777216
def dg (n:Nat):List Nat:=if n=0 then [] else n % 16777216 :: dg (n / 16777216)
termination_by n
decreasing_by omega
theorem pcx:dg 0=[]:=by rw [dg];rfl
theorem pf1 {n:Nat} (h:0<n):dg n=n % 16777216 :: dg (n / 16777216):=by rw [dg,if_neg (by omega)]
theorem pa9 (n:Nat):valL (dg n)=n:=by
 induction n using Nat.strongRecOn with
 | ind n ih =>
  by_cases h:n=0
  · subst h;rw [pcx];rfl
  · rw [pf1 (by omega),valL,ih (n / 16777216) (by omega)]
    omega
theorem pdY (n:Nat):okL (dg n):=by
 induction n using Nat.strongRecOn with
 | ind n ih =>
  by_cases h:n=0
  · subst h;rw [pcx];intro d hd;simp at hd
  · rw [pf1 (by omega)]
    intro d hd
    rcases List.mem_cons.1 hd with rfl | hd
    · omega
    · exact ih (n / 16777216) (by omega) d hd
theorem pcy:∀ (a b:List Nat),valL (a ++ b)=valL a+16777216 ^ a.length * valL b
 | [],b=>by simp [valL]
 | d :: r,b=>by
  simp only [List.cons_append,valL,pcy r b,List.length_cons,Nat.pow_succ]
  rw [Nat.mul_add,Nat.add_assoc,← Nat.mul_assoc,Nat.mul_comm (16777216 ^ r.length) 16777216]
theorem pci (a:List Nat) (d:Nat):valL (a ++ [d])=valL a+16777216 ^ a.length * d:=by rw [pcy];simp [valL]
theorem pe9:okL []:=fun d hd=>by simp at hd
theorem okL_snoc {l:List Nat} {d:Nat} (h:okL l) (hd:d<16777216):okL (l ++ [d]):=by
 intro x hx
 rcases List.mem_append.1 hx with hx | hx
 · exact h x hx
 · rw [List.mem_singleton] at hx;omega
theorem pjT {l:List Nat} (h:okL l) (k:Nat):okL (l.take k):=fun d hd=>h d (List.mem_of_mem_take hd)
theorem pgK:∀ {l:List Nat},okL l→valL l<16777216 ^ l.length
 | [],_=>by simp [valL]
 | d :: r,h=>by
  have h1:=h d (by simp)
  have h2:=pgK (l:=r) (fun x hx=>h x (by simp [hx]))
  simp only [valL,List.length_cons,Nat.pow_succ]
  omega
theorem pf2:∀ {c:List Nat},okL c→(∀ d,c.getLast? =some d→d≠0)→c=dg (valL c)
 | [],_,_=>by rw [valL,pcx]
 | d :: r,h,hl=>by
  have hd:=h d (by simp)
  cases r with
  | nil =>
   have:d≠0:=hl d (by simp)
   simp only [valL,Nat.mul_zero,Nat.add_zero]
   rw [pf1 (by omega),show d % 16777216=d by omega,show d / 16777216=0 by omega,pcx]
  | cons e r =>
   have ih:=pf2 (c:=e :: r) (fun x hx=>h x (by simp [List.mem_cons.1 hx])) (fun x hx=>hl x (by simpa using hx))
   have hpos:0<valL (e :: r):=by
    rcases Nat.eq_zero_or_pos (valL (e :: r)) with h0 | h0
    · rw [h0,pcx] at ih;cases ih
    · exact h0
   rw [valL,pf1 (by omega),show (d+16777216 * valL (e :: r)) % 16777216=d by omega,show (d+16777216 * valL (e :: r)) / 16777216=valL (e :: r) by omega,← ih]
theorem pdC:∀ (k n:Nat),n<16777216 ^ k→(dg n).length≤k
 | 0,n,h=>by
  have:n=0:=by simpa using h
  subst this;rw [pcx];simp
 | k+1,n,h=>by
  by_cases h0:n=0
  · subst h0;rw [pcx];simp
  · rw [pf1 (by omega),List.length_cons]
    have:=pdC k (n / 16777216) (by rw [Nat.pow_succ] at h;omega)
    omega
theorem pqH (n:Nat):n<16777216 ^ (dg n).length:=by
 have:=pgK (pdY n)
 rwa [pa9] at this
theorem pfa {x y:Nat} (h:(dg x).length<(dg y).length):x<y:=by
 rcases Nat.lt_or_ge x y with h1 | h1
 · exact h1
 · have:=pdC (dg x).length y (Nat.lt_of_le_of_lt h1 (pqH x))
   omega
theorem pl6 {u v:List Nat} {k a b:Nat} (hu:okL u) (hk:u.drop (k+1)=v.drop (k+1)) (ha:u[k]? =some a) (hb:v[k]? =some b) (hab:a<b):valL u<valL v:=by
 obtain ⟨hku,rfl⟩:=List.getElem?_eq_some_iff.1 ha
 obtain ⟨hkv,rfl⟩:=List.getElem?_eq_some_iff.1 hb
 have eu:=pcy (u.take k) (u.drop k)
 have ev:=pcy (v.take k) (v.drop k)
 rw [List.take_append_drop,List.drop_eq_getElem_cons hku,valL] at eu
 rw [List.take_append_drop,List.drop_eq_getElem_cons hkv,valL,← hk] at ev
 rw [List.length_take,Nat.min_eq_left (by omega)] at eu ev
 have hlt:=pgK (pjT hu k)
 rw [List.length_take,Nat.min_eq_left (by omega)] at hlt
 generalize 16777216 ^ k=m at *
 generalize 16777216 * valL (u.drop (k+1))=z at *
 have h2:m * (u[k]+z)+m≤m * (v[k]+z):=by
  rw [← Nat.mul_succ]
  exact Nat.mul_le_mul_left _ (by omega)
 omega
theorem pbK {l:List Nat} {k d:Nat} (h:l[k]? =some d):valL (l.drop k)=d+16777216 * valL (l.drop (k+1)):=by
 obtain ⟨hk,rfl⟩:=List.getElem?_eq_some_iff.1 h
 rw [List.drop_eq_getElem_cons hk,valL]
theorem pdD {α:Type} {l:List α} {k:Nat} {d:α} (h:l[k]? =some d):l.take (k+1)=l.take k ++ [d]:=by
 rw [List.take_add_one,h];rfl
theorem pbL {l:List Nat} {k d:Nat} (h:l[k]? =some d):valL (l.take (k+1))=valL (l.take k)+16777216 ^ k * d:=by
 have hk:=(List.getElem?_eq_some_iff.1 h).1
 rw [pdD h,pci,List.length_take,Nat.min_eq_left (by omega)]
theorem pkY {u out:List Nat} {k x d c:Nat} (hx:u[k]? =some x) (hl:out.length=k) (h:valL out+16777216 ^ k * c=valL (u.take k) * d) :
 valL (out ++ [(x * d+c) % 16777216])+16777216 ^ (k+1) * ((x * d+c) / 16777216)=valL (u.take (k+1)) * d:=by
 rw [pci,hl,pbL hx,Nat.add_mul,← h,Nat.pow_succ,Nat.mul_assoc (16777216 ^ k) 16777216,Nat.add_assoc,← Nat.mul_add,Nat.mul_assoc (16777216 ^ k) x d,Nat.add_assoc,← Nat.mul_add]
 congr 2
 omega
theorem piR {x d c:Nat} (hx:x<16777216) (hd:d<16777216) (hc:c<16777216):(x * d+c) / 16777216<16777216∧x * d+c<281474976710656:=by
 have h:x * d≤16777215 * 16777215:=Nat.mul_le_mul (by omega) (by omega)
 omega
theorem pcX {u v out:List Nat} {k x r b b':Nat} (hx:u[k]? =some x) (hl:out.length=k) (h:valL out+valL (v.take k)=valL (u.take k)+16777216 ^ k * b) (hs:x+16777216 * b'=r+b+v.getD k 0) :
 valL (out ++ [r])+valL (v.take (k+1))=valL (u.take (k+1))+16777216 ^ (k+1) * b':=by
 have hv:valL (v.take (k+1))=valL (v.take k)+16777216 ^ k * v.getD k 0:=by
  by_cases hk:k<v.length
  · have he:v[k]? =some v[k]:=List.getElem?_eq_getElem hk
    rw [pbL he,List.getD_eq_getElem?_getD,he]
    rfl
  · rw [List.take_of_length_le (by omega),List.take_of_length_le (by omega),List.getD_eq_getElem?_getD,List.getElem?_eq_none (by omega)]
    simp
 have e:16777216 ^ k * (x+16777216 * b')=16777216 ^ k * (r+b+v.getD k 0):=by rw [hs]
 rw [Nat.mul_add,Nat.mul_add,Nat.mul_add,← Nat.mul_assoc] at e
 rw [pci,hl,pbL hx,hv,Nat.pow_succ]
 omega
theorem pl7 {u v out:List Nat} {b:Nat} (hl:out.length=u.length) (ho:okL out) (hv:v.length≤u.length) (hle:valL v≤valL u) (h:valL out+valL (v.take u.length)=valL (u.take u.length)+16777216 ^ u.length * b):valL out=valL u - valL v:=by
 rw [List.take_of_length_le hv,List.take_length] at h
 have h1:=pgK ho
 rw [hl] at h1
 cases b with
 | zero=>omega
 | succ b=>rw [Nat.mul_succ] at h;omega
theorem pcz {x y:Nat} (h:y≤x):(dg y).length≤(dg x).length:=by
 rcases Nat.lt_or_ge (dg x).length (dg y).length with h1 | h1
 · have:=pfa h1;omega
 · exact h1
theorem pkZ (l:List UInt8) (d:Nat) (h:d<16777216):natB (l ++ [UInt8.ofNat (d / 65536),UInt8.ofNat (d / 256),UInt8.ofNat d])=natB l * 16777216+d:=by
 have e:l ++ [UInt8.ofNat (d / 65536),UInt8.ofNat (d / 256),UInt8.ofNat d]=((l ++ [UInt8.ofNat (d / 65536)]) ++ [UInt8.ofNat (d / 256)]) ++ [UInt8.ofNat d]:=by simp
 rw [e,pbk,pbk,pbk]
 simp only [UInt8.toNat_ofNat']
 omega
theorem pjU {X q Q y r x:Nat} (h:X=Q * y+r) (hq:q=(x+16777216 * r) / y):x+16777216 * X=(q+16777216 * Q) * y+(x+16777216 * r) % y:=by
 have:=Nat.div_add_mod (x+16777216 * r) y
 rw [← hq] at this
 rw [h,Nat.add_mul,Nat.mul_assoc,Nat.mul_add,Nat.mul_comm q y]
 omega
theorem phA {y r x:Nat} (hr:r<y) (hx:x<16777216):(x+16777216 * r) / y<16777216:=by
 rw [Nat.div_lt_iff_lt_mul (by omega)]
 have:16777216 * (r+1)≤16777216 * y:=Nat.mul_le_mul_left _ (by omega)
 rw [Nat.mul_comm 16777216 y] at this
 omega
theorem pl8 {u y m:Nat} (_hy:0<y) (h:y * m≤u):m≤u / y:=(Nat.le_div_iff_mul_le _hy).2 (by rw [Nat.mul_comm];exact h)
theorem pk0 {u y m:Nat} (_hy:0<y) (h:u<y * m):u / y<m:=(Nat.div_lt_iff_lt_mul _hy).2 (by rw [Nat.mul_comm];exact h)
end Go.Proofs.YtheobkejohifaaaGreatDoor
