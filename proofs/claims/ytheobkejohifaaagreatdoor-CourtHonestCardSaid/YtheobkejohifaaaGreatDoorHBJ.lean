/- court.Judge at a case and two votes of an honest member: nobody is convicted and what follows. -/
import Derived.Test.YtheobkejohifaaaGreatDoorHBF
import Derived.Test.YtheobkejohifaaaGreatDoorHBI
import Derived.Test.YtheobkejohifaaaGreatDoorHBH
namespace Go.Proofs.YtheobkejohifaaaGreatDoor
open Go.RowKit
set_option maxRecDepth 100000
def MkNo (w:World) (e:Ending) (w':World):Prop:=∃ x y:Int,Hid (y≠0)∧e=.returned (.tuple #[.int .i64 x,.int .i64 y])∧Upd [] [] w w'
theorem phc.toN {o:Option Nat} {PF PG PP:Bool→Prop} {who:Int} {w w':World} {e:Ending} (h:phc o PF PG PP who w e w') (hn:PF true→PP true→False):MkNo w e w':=by
 obtain ⟨x,y,h,rfl,hu⟩:=h
 refine ⟨x,y,?_,rfl,hu⟩
 show y≠0
 rcases h with ⟨_,rfl,rfl⟩ | ⟨i,ho,⟨_,rfl,rfl⟩ | ⟨_,_,rfl,rfl⟩ | ⟨_,_,_,rfl,rfl⟩ | ⟨h1,_,h2,rfl,rfl⟩⟩
 · omega
 · omega
 · omega
 · omega
 · exact (hn h1 h2).elim
set_option maxHeartbeats 4000000 in
theorem plE (l:List Int) (L K P KM S C KS:Value) (w:World) (hC:CaseRd l w L K P KM S C KS) (k q0 q1 i j:Nat) (hq:q1≤255) (a b:Hv) (ha:Hon l k q0 q1 i a) (hb:Hon l k q0 q1 j b) (hij:i=j→a=b) (kind who:Int) (hkd:1≤kind∧kind≤5) (_hwho:pab who) (F A:ByteArray) (hF:bs F=be q1) (hA:bs A=be (q1 * q1)) (htab:Tabs w) :
 Calls Tryz.prog 16 #[.agg #[L,K,P,KM,.int .i64 4,.int .i64 0],.agg #[.int .i64 kind,.int .i64 who,.int .i64 a.who,.string a.T,.int .i64 a.r,.int .i64 a.s,.int .i64 b.who,.string b.T,.int .i64 b.r,.int .i64 b.s,.int .i64 (q1:Int),.int .i64 ((q1+1:Nat):Int),.string F,.string A,.string ⟨#[]⟩,.int .i64 0,.int .i64 0,.int .i64 0,.int .i64 0]] w (MkNo w):=by
 have hlock:=fun x=>ha.lock (x:=x)
 have hlockB:=fun x=>hb.lock (x:=x)
 have hdou:=fun c=>ha.double hb hij (c:=c)
 have hdlg:=ha.noDlg
 have hpart:=fun ev ep x v c z (h:pdP (bs a.T) ev ep x v c z) kk zz id=>ha.part h kk zz id
 obtain ⟨ws,hws⟩:∃ ws,ws=wsN l (pax l):=⟨_,rfl⟩
 have hok:WsOk ws:=by rw [hws];exact pfX l
 have hcoms:=po8 l
 obtain ⟨cs,hcs⟩:∃ cs,cs=mixL (dsN (wsN l (pax l)) pbx (pax l)) (needN (wsN l (pax l)).sum):=⟨_,rfl⟩
 have hcl:cs.length=needN ws.sum:=by rw [hcs,peL,hws]
 rw [← hcs] at hcoms hpart
 have hcrew:=hC.made.crew
 have hK:=hC.made.coms
 have hP:=hC.made.pts
 rw [← hcs] at hK
 rw [← hws] at hcrew hP hpart
 obtain ⟨ao,cap,eL,h1,h2,hM⟩:=hcrew
 have hcr:pb7 w (.slice ao ws.length cap) ws:=⟨ao,cap,rfl,h1,h2,hM⟩
 obtain ⟨ca,cc,eK,_,_⟩:=hK.form
 have hP0:=hP
 obtain ⟨pa,pc,eP,_,_,_⟩:=hP0
 obtain ⟨ka,kc,eM,hk2,_,hKM⟩:=hC.kmem
 have hs12:=hok.sum
 have hcl2:cs.length≤1000:=by
  rw [hcl]
  have:=(pcg (t:=ws.sum) (by omega)).2
  omega
 obtain ⟨gM,eg⟩:∃ gM,ao=some ⟨gM,0,none⟩:=by
  obtain ⟨x,hx⟩:∃ x,ws[0]? =some x:=⟨_,List.getElem?_eq_getElem (by have:=hok.1;omega)⟩
  obtain ⟨g,e,_⟩:=hM 0 _ (pbb hx)
  exact ⟨g,e⟩
 obtain ⟨gK,egk⟩:∃ gK,ka=some ⟨gK,0,none⟩:=by
  obtain ⟨g,e,_⟩:=hKM 0 (phX 0) (by simp [kskL])
  exact ⟨g,e⟩
 subst eg egk
 obtain ⟨xaw,hta,xar,xas⟩:=ha.1
 obtain ⟨xbw,htb,xbr,xbs⟩:=hb.1
 have xl:pab (q1:Int):=by unfold pab;omega
 have xh:pab ((q1+1:Nat):Int):=by unfold pab;omega
 have xk:-9223372036854775808≤kind∧kind≤9223372036854775807:=by omega
 have hq2:q1 * q1≤255 * 255:=Nat.mul_le_mul hq hq
 obtain ⟨aw,aT,ar,as'⟩:=a
 obtain ⟨bw,bT,br,bs'⟩:=b
 simp only at xaw hta xar xas xbw htb xbr xbs hlock hlockB hdou hdlg hpart ⊢
 subst eL eK eP eM
 rw [pbw] at hP ⊢
 have hn4:=hok.2.1
 obtain ⟨low,hlow⟩:∃ low:Int,low=(q1:Int):=⟨_,rfl⟩
 obtain ⟨high,hhigh⟩:∃ high:Int,high=((q1+1:Nat):Int):=⟨_,rfl⟩
 rw [← hlow] at xl ⊢
 rw [← hhigh] at xh ⊢
 obtain ⟨B,hB⟩:∃ B:ByteArray,B=⟨#[]⟩:=⟨_,rfl⟩
 rw [← hB]
 obtain ⟨o,wt,pub,hi,hm⟩:=po7 who (pdc ws)
 have key:∀ (f1 f2 f3:Nat) (PF PP:Bool→Prop),crtF kind=some (crtV false f1 f2 f3)→(∀ (A:Array Value) (W:World),(callFunc f1 A).run Tryz.prog W=.ok (.enter f1 A) W)→(∀ (A:Array Value) (W:World),(callFunc f2 A).run Tryz.prog W=.ok (.enter f2 A) W)→(∀ (A:Array Value) (W:World),(callFunc f3 A).run Tryz.prog W=.ok (.enter f3 A) W) →
  (∀ (M:Array Value) (h:MtIs M aw aT ar as' bw bT br bs' low high F A B who pub) (W:World),Upd [] [] w W→Calls Tryz.prog f1 #[.agg M] W (MkPB PF W)) →
  (pab pub→∀ (M:Array Value) (h:MtIs M aw aT ar as' bw bT br bs' low high F A B who pub) (W:World),Upd [] [] w W→Calls Tryz.prog f2 #[.agg M] W (MkPB (fun _=>True) W)) →
  (PF true→∀ (M:Array Value) (i:Nat),o=some i→MtIs M aw aT ar as' bw bT br bs' low high F A B who pub→MtMore M (.slice (some ⟨gM,0,none⟩) ws.length cap) (.slice ca cs.length cc) (.slice pa ws.length pc) (i:Int) 0 0 0 0→∀ W,Upd [] [] w W→Calls Tryz.prog f3 #[.agg M] W (MkPB PP W))→(PF true→PP true→False) →
  Calls Tryz.prog 16 #[.agg #[.slice (some ⟨gM,0,none⟩) ws.length cap,.slice ca cs.length cc,.slice pa ws.length pc,.slice (some ⟨gK,0,none⟩) 2 kc,.int .i64 4,.int .i64 0],.agg #[.int .i64 kind,.int .i64 who,.int .i64 aw,.string aT,.int .i64 ar,.int .i64 as',.int .i64 bw,.string bT,.int .i64 br,.int .i64 bs',.int .i64 low,.int .i64 high,.string F,.string A,.string B,.int .i64 0,.int .i64 0,.int .i64 0,.int .i64 0]] w (MkNo w):=fun f1 f2 f3 PF PP hcr b1 b2 b3 g1 g2 g3 hno =>
  (pgt gM ws.length cap ca cs.length cc pa ws.length pc (some ⟨gK,0,none⟩) 2 kc 4 0 kind who aw aT ar as' bw bT br bs' low high F A B 0 0 0 0 f1 f2 f3 hcr xk (pdc ws) (pfY ws).symm h1 (by omega) o wt pub hi hm PF (fun _=>True) PP w hM b1 b2 b3
   (fun i _ W u=>g1 _ (MtIs.ofG _ _ _ _ _ _ _ _ _ _ _ _ _ _ _ _ _ _ _ _ _ _ _ _ _ _ _ _ _ _ _ _ _ _ _ _ _) W u)
   (fun i hoi _ W u=>g2 (pkI (hm i hoi)).1 _ (MtIs.ofG _ _ _ _ _ _ _ _ _ _ _ _ _ _ _ _ _ _ _ _ _ _ _ _ _ _ _ _ _ _ _ _ _ _ _ _ _) W u)
   (fun i hoi hpf _ W u=>g3 hpf _ i hoi (MtIs.ofG _ _ _ _ _ _ _ _ _ _ _ _ _ _ _ _ _ _ _ _ _ _ _ _ _ _ _ _ _ _ _ _ _ _ _ _ _) ⟨rfl,rfl,rfl,rfl,rfl,rfl,rfl,rfl⟩ W u)).mono fun _ _ h=>phc.toN h hno
 have hone:pab pub→∀ (M:Array Value) (h:MtIs M aw aT ar as' bw bT br bs' low high F A B who pub) (W:World),Upd [] [] w W→Calls Tryz.prog 89 #[.agg M] W (MkPB (fun _=>True) W):=fun hp M h W u=>by
  refine (pjr h hp xar xas (by omega) W (htab.upd u)).mono ?_
  rintro e w' ⟨b,_,rfl,hu⟩
  exact ⟨b,trivial,rfl,hu⟩
 have hboth:pab pub→∀ (M:Array Value) (h:MtIs M aw aT ar as' bw bT br bs' low high F A B who pub) (W:World),Upd [] [] w W→Calls Tryz.prog 91 #[.agg M] W (MkPB (fun _=>True) W):=fun hp M h W u=>by
  refine (peR h hp xar xas (by omega) xbr xbs (by omega) W (htab.upd u)).mono ?_
  rintro e w' ⟨b,_,rfl,hu⟩
  exact ⟨b,trivial,rfl,hu⟩
 rcases (by omega:kind=1∨kind=2∨kind=3∨kind=4∨kind=5) with rfl | rfl | rfl | rfl | rfl
 · exact key 88 91 92 (fun _=>True) _ rfl (fun _ _=>by kernel_rfl) (fun _ _=>by kernel_rfl) (fun _ _=>by kernel_rfl) (fun M _ W _=>MkPB.weak (Mk.toPB (peQ (M:=M) W)) fun _ _=>trivial) hboth (fun _ M i _ h _ W u=>pjE h (by omega) (by omega) W (htab.upd u)) (fun _ h=>by have:=hdou true h;cases this)
 · exact key 94 89 95 _ (fun b=>b=false) rfl (fun _ _=>by kernel_rfl) (fun _ _=>by kernel_rfl) (fun _ _=>by kernel_rfl) (fun M h W u=>pcP.toT (pg1 h (by omega) W (htab.upd u))) hone (fun hf M i hoi h mm W u=>by
    obtain ⟨_,zz,hzz⟩:=pkI (hm i hoi)
    refine MkPB.weak (pcP.toT (pfN h i mm (by omega) (hf.1 rfl) cs ws zz W hok hzz (hK.upd u) (hP.upd u) hcl hcoms hcl2 (htab.upd u))) ?_
    rintro b ⟨ev,ep,x,v,c,z,hp,rfl⟩
    exact hpart ev ep x v c z hp i zz who) (fun _ h=>by cases h)
 · exact key 96 89 97 _ (fun b=>b=false) rfl (fun _ _=>by kernel_rfl) (fun _ _=>by kernel_rfl) (fun _ _=>by kernel_rfl) (fun M h W u=>pcP.toT (phd h q1 (q1 * q1) xl xh hF hA (by omega) (by omega) W (htab.upd u))) hone (fun _ M i _ h _ W u=>MkPB.weak (pcP.toT (pfO h q1 (q1 * q1) xl hF hA (by omega) (by omega) W)) (fun b hb=>by
    cases b with
    | false=>rfl
    | true=>exact absurd rfl (hb.1 rfl).2.2.2)) (fun _ h=>by cases h)
 · exact key 98 91 99 _ (fun b=>b=false) rfl (fun _ _=>by kernel_rfl) (fun _ _=>by kernel_rfl) (fun _ _=>by kernel_rfl) (fun M h W u=>pcP.toT (pjy h (by omega) (by omega) W (htab.upd u))) hboth (fun hf M i _ h _ W u=>MkPB.weak (pcP.toT (piB h (by omega) (by omega) (hf.1 rfl).1 (hf.1 rfl).2 W (htab.upd u))) (by
    rintro b ⟨x,y,hx,hy,rfl⟩
    have e:x.x=y.x:=paM ((hlock x hx).trans (hlockB y hy).symm)
    simp [e])) (fun _ h=>by cases h)
 · exact key 100 89 101 (fun b=>b=false) (fun _=>True) rfl (fun _ _=>by kernel_rfl) (fun _ _=>by kernel_rfl) (fun _ _=>by kernel_rfl) (fun M h W u=>MkPB.weak (pcP.toT (pfA h (by omega) W (htab.upd u))) (fun b hb=>by
    cases b with
    | false=>rfl
    | true=>exact (hdlg (hb.1 rfl)).elim)) hone (fun hf=>by cases hf) (fun hf _=>by cases hf)
def jW (g p:Bool) (who:Int):Int:=if g && p then who else 0
def jE (g p:Bool):Int:=if g then (if p then 0 else 25) else 21
theorem pnY (kind who aw:Int) (aT:ByteArray) (ar as' bw:Int) (bT:ByteArray) (br bs' low high:Int) (F A B:ByteArray):(Tryz.prog.info? 69).map (·.size)=some (evdL kind who aw aT ar as' bw bT br bs' low high F A B).length:=by
 show _=some 19
 kernel_rfl
theorem po9 {kind who aw:Int} {aT:ByteArray} {ar as' bw:Int} {bT:ByteArray} {br bs' low high:Int} {F A B:ByteArray} {g:Nat} {W:World} (h:W.heap[g]? =some (.cells (evdL kind who aw aT ar as' bw bT br bs' low high F A B).toArray 69 (0,0))) :
 (Instr.loadAt 69 (.pointer (some ⟨g,0,none⟩))).run Tryz.prog W=.ok (.agg (evdL kind who aw aT ar as' bw bT br bs' low high F A B).toArray) W :=
 run_loadAt_mid W g 0 69 _ _ (pbM rfl h) Tryz.underlying69 rfl (pnY _ _ _ _ _ _ _ _ _ _ _ _ _ _ _)
theorem pnX.is {g p:Bool} {who:Int} {w w':World} {e:Ending} (h:pnX (·=true) (·=g) (·=p) who w e w'):Mk (.tuple #[.int .i64 (jW g p who),.int .i64 (jE g p)]) w e w':=by
 obtain ⟨x,y,h,rfl,hu⟩:=h
 refine ⟨?_,hu⟩
 rcases h with ⟨h,_⟩ | ⟨_,rfl,rfl,rfl⟩ | ⟨_,rfl,rfl,rfl,rfl⟩ | ⟨_,rfl,rfl,rfl,rfl⟩
 · cases h
 · rfl
 · rfl
 · rfl
theorem pps {w:World} {g:Nat} {id wt pub:Int} (h:w.heap[g]? =some (.cells (mbrV id wt pub) 64 (0,0))):pez w (some ⟨g,0,none⟩) [⟨id,wt,pub⟩]:=by
 intro k m hk
 match k,hk with
 | 0,hk =>
  simp at hk
  subst hk
  exact ⟨g,rfl,pag h,cell_of_row _ g 0 _ _ _ h,cell_of_row _ g 1 _ _ _ h,cell_of_row _ g 2 _ _ _ h⟩
theorem plF {f:FuncId} {args:Array Value} {q:Bool} {w:World} (h:Calls Tryz.prog f args w (Mk (.bool q) w)):Calls Tryz.prog f args w (MkPB (·=q) w):=h.mono fun _ _ h=>⟨q,rfl,h.1,h.2⟩
theorem pcS (gM:Nat) (who aw:Int) (aT:ByteArray) (ar as' bw:Int) (bT:ByteArray) (br bs' low high:Int) (F A B:ByteArray) (wt pub:Int) (g p:Bool) (w:World) (hM:w.heap[gM]? =some (.cells (mbrV who wt pub) 64 (0,0)))
 (hF:∀ W,Upd [] [] w W→Calls Tryz.prog 88 #[.agg (mtL (.slice (some ⟨gM,0,none⟩) 1 1) (.slice none 0 0) (.slice none 0 0) (.slice none 0 0) 1 who aw aT ar as' bw bT br bs' low high F A B who wt pub).toArray] W (Mk (.bool true) W))
 (hG:∀ W,Upd [] [] w W→Calls Tryz.prog 91 #[.agg (mtL (.slice (some ⟨gM,0,none⟩) 1 1) (.slice none 0 0) (.slice none 0 0) (.slice none 0 0) 1 who aw aT ar as' bw bT br bs' low high F A B who wt pub).toArray] W (Mk (.bool g) W))
 (hP:∀ W,Upd [] [] w W→Calls Tryz.prog 92 #[.agg (mtL (.slice (some ⟨gM,0,none⟩) 1 1) (.slice none 0 0) (.slice none 0 0) (.slice none 0 0) 1 who aw aT ar as' bw bT br bs' low high F A B who wt pub).toArray] W (Mk (.bool p) W)) :
 Calls Tryz.prog 16 #[.agg (supV gM),.agg (evdL 1 who aw aT ar as' bw bT br bs' low high F A B).toArray] w (Mk (.tuple #[.int .i64 (jW g p who),.int .i64 (jE g p)]) w) :=
 (piA gM 1 1 none 0 0 none 0 0 none 0 0 0 0 1 who aw aT ar as' bw bT br bs' low high F A B 0 0 0 0 88 91 92 rfl (by omega) [⟨who,wt,pub⟩] rfl (Nat.le_refl _) (by omega) 0 wt pub (by simp [pb6]) rfl (·=true) (·=g) (·=p) w (pps hM) (fun _ _=>by kernel_rfl) (fun _ _=>by kernel_rfl) (fun _ _=>by kernel_rfl)
  (fun W u=>plF (hF W u)) (fun _ W u=>plF (hG W u)) (fun _ _ W u=>plF (hP W u))).mono fun _ _ h=>h.is
theorem pde (gM:Nat) (who aw:Int) (aT:ByteArray) (ar as' bw:Int) (bT:ByteArray) (br bs' low high:Int) (F A B:ByteArray) (wt pub:Int) (g p:Bool) (w:World) (hM:w.heap[gM]? =some (.cells (mbrV who wt pub) 64 (0,0)))
 (hF:∀ W,Upd [] [] w W→Calls Tryz.prog 96 #[.agg (mtL (.slice (some ⟨gM,0,none⟩) 1 1) (.slice none 0 0) (.slice none 0 0) (.slice none 0 0) 3 who aw aT ar as' bw bT br bs' low high F A B who wt pub).toArray] W (Mk (.bool true) W))
 (hG:∀ W,Upd [] [] w W→Calls Tryz.prog 89 #[.agg (mtL (.slice (some ⟨gM,0,none⟩) 1 1) (.slice none 0 0) (.slice none 0 0) (.slice none 0 0) 3 who aw aT ar as' bw bT br bs' low high F A B who wt pub).toArray] W (Mk (.bool g) W))
 (hP:∀ W,Upd [] [] w W→Calls Tryz.prog 97 #[.agg (mtL (.slice (some ⟨gM,0,none⟩) 1 1) (.slice none 0 0) (.slice none 0 0) (.slice none 0 0) 3 who aw aT ar as' bw bT br bs' low high F A B who wt pub).toArray] W (Mk (.bool p) W)) :
 Calls Tryz.prog 16 #[.agg (supV gM),.agg (evdL 3 who aw aT ar as' bw bT br bs' low high F A B).toArray] w (Mk (.tuple #[.int .i64 (jW g p who),.int .i64 (jE g p)]) w) :=
 (piA gM 1 1 none 0 0 none 0 0 none 0 0 0 0 3 who aw aT ar as' bw bT br bs' low high F A B 0 0 0 0 96 89 97 rfl (by omega) [⟨who,wt,pub⟩] rfl (Nat.le_refl _) (by omega) 0 wt pub (by simp [pb6]) rfl (·=true) (·=g) (·=p) w (pps hM) (fun _ _=>by kernel_rfl) (fun _ _=>by kernel_rfl) (fun _ _=>by kernel_rfl)
  (fun W u=>plF (hF W u)) (fun _ W u=>plF (hG W u)) (fun _ _ W u=>plF (hP W u))).mono fun _ _ h=>h.is
theorem pnZ (SV EV:Array Value) (hE:EV[0]? =some (.int .i64 9)) (w:World):Calls Tryz.prog 16 #[.agg SV,.agg EV] w (Mk (.tuple #[.int .i64 0,.int .i64 14]) w):=plB SV EV 9 hE rfl (by unfold pab;omega) w
end Go.Proofs.YtheobkejohifaaaGreatDoor
