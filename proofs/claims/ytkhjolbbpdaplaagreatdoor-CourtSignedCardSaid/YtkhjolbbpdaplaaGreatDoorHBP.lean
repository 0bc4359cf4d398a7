/- sortesref22.Signed, sortesref22.Print and what follows. -/
import Derived.Test.YtkhjolbbpdaplaaGreatDoorHBO
namespace Go.Proofs.YtkhjolbbpdaplaaGreatDoor
set_option maxHeartbeats 8000000
open Go.RowKit Go.Proofs.Tryz
set_option maxRecDepth 100000
def pkh (X:Rc) (x:Int):Rc:={ X with r:=(gP (nonceN (expN x) (pa1 X)):Int),s:=(sWith (expN x) (nonceN (expN x) (pa1 X)) (pa1 X):Int) }
theorem pki (x X) (hx:pab x) (d:X.ok) (ac:X.draw.size<=1000000000) (w) :
 Calls prog 145 #[.int .i64 x,.agg (rcV X).toArray] w (Mk (.agg (rcV (pkh X x)).toArray) w):=by
 obtain ⟨R,c⟩:=az ((rcV X).toArray);obtain ⟨Z,hZ⟩:∃ Z,Z=Tryz.zeroCells62:=⟨_,rfl⟩
 have o:Z=(rcV Rc.zero).toArray:=by rw [hZ];rfl
 have C:RcAt ((w.alloc (.cells R 62)).alloc (.cells Z 62)) w.heap.size X:=(pi4 w X R c).upd (uR.alloc _);have A:((w.alloc (.cells R 62)).alloc (.cells Z 62)).heap[w.heap.size+1]? =some (.cells Z 62 (0,0)):=by
  have h:=xi (w.alloc (.cells R 62)) (.cells Z 62);rw [yI] at h;exact h
 have B:Uq w ((w.alloc (.cells R 62)).alloc (.cells Z 62)):=(uR.alloc _).alloc _;have q:((w.alloc (.cells R 62)).alloc (.cells Z 62)).heap.size=w.heap.size+1+1:=by simp
 obtain ⟨a,ag⟩:=ae ((w.alloc (.cells R 62)).alloc (.cells Z 62));rw [ag] at C A B q;have E:=ah A;have D:Fr a w.heap.size R 62:=by show _=_;rw [c];exact C
 have u:Hid ((a.alloc (.cells Z 62)).heap[a.heap.size]? =some (.cells Z 62 (0,0))):=xi a (.cells Z 62);have n:Uq a ((a.alloc (.cells Z 62)).setRow a.heap.size R):=(uR.alloc _).setRowNew (xj _) _;have R6:Hid (((a.alloc (.cells Z 62)).setRow a.heap.size R).heap[w.heap.size]? =some (.cells R 62 (0,0))):=paa D.out n;have r6:RcAt ((a.alloc (.cells Z 62)).setRow a.heap.size R) a.heap.size X:=by
  rw [c];exact xz _ _ _ _ _ _ u.out
 have aa:Hid (∀ W,Calls prog 70 #[.agg R] W (MkS (pa1 X) W)):=by
  intro W;rw [c];exact pgN X d ac W
 have ar:=pcP d;have v:Fi 62 R:=by show _=_;rw [c];exact rcSz d
 have am:Hid (Z.size=R.size):=by show _=_;rw [c,o];simp [paM d,paM Rc.zero_ok]
 have af:Fo R:=by show _=_;rw [c];exact rcOne _
 have an:=ah o;rw [<-c];have F:=B.trans n;subst hZ;have ak:=ah q;clear o A C c q;go_in;go_wp2_with (first | (refine bL D underlying62 v ?_) | (refine bV u v am af ?_) | (refine bL R6 underlying62 v ?_))
 refine (aa.out _).mono ?_;rintro e w7 ⟨y,HY,hy,rfl,hq⟩;have r7:=r6.upd hq;have u7:=F.trans hq;have N:=ah (paa E.out (n.trans hq));have ao:=E;clear hq r6 R6 u n F E D;go_wp2_with fail;refine (pgb x y w7 (by unfold pab at hx;omega) (by omega)).mono ?_;rintro e w8 ⟨g,f,J,Q,aq,ap,rfl,hq⟩;have k:=r7.upd hq;have u8:=u7.trans hq;have O:=ah (paa N.out hq);clear hq N;obtain ⟨c0,c1⟩:=k.sig d;have f0:=k.frozen 100;have f1:=k.frozen 101;obtain ⟨Y,m⟩:∃ Y:Rc,Y={ X with r:=(g:Int),s:=(f:Int) }:=⟨_,rfl⟩
 have U:Y.ok:=by
  rw [m];obtain ⟨o1,o2,o3,o4,o5,o6,_,_⟩:=d;exact ⟨o1,o2,o3,o4,o5,o6,⟨show (-9223372036854775808:Int)<=(g:Int) by omega,show (g:Int)<=9223372036854775807 by omega⟩,⟨show (-9223372036854775808:Int)<=(f:Int) by omega,show (f:Int)<=9223372036854775807 by omega⟩⟩
 have z:=k.sigs d (g:Int) (f:Int);rw [<-m] at z;have P:rcV (pkh X x)=rcV Y:=by
  rw [pkh,m,J.out,Q.out,HY.out]
 obtain ⟨M,j⟩:=az ((rcV Y).toArray);have al:Hid (M=(rcV (pkh X x)).toArray):=by show _=_;rw [j,P]
 have T:(prog.info? 62).map (·.size)=some M.size:=by rw [j];exact rcSz U
 have ab:M.all (·.oneCell')=true:=by rw [j];exact rcOne _
 have G:(Tryz.zeroCells62).size=M.size:=by rw [j,an.out];simp [paM U,paM Rc.zero_ok]
 have K:=B.size;have S:w.heap.size+1≠a.heap.size:=by rw [ak.out];omega
 have R9:Hid (((w8.setCell ⟨a.heap.size,100,none⟩ (.int .i64 (g:Int))).setCell ⟨a.heap.size,101,none⟩ (.int .i64 (f:Int))).heap[a.heap.size]? =some (.cells M 62 (0,0))):=by rw [j];exact z
 have H:Hid (((w8.setCell ⟨a.heap.size,100,none⟩ (.int .i64 (g:Int))).setCell ⟨a.heap.size,101,none⟩ (.int .i64 (f:Int))).heap[w.heap.size+1]? =some (.cells Tryz.zeroCells62 62 (0,0))):=pa7 (pa7 O.out S _) S _;have u9:=(u8.setNew (p:=⟨a.heap.size,100,none⟩) K (.int .i64 (g:Int))).setNew (p:=⟨a.heap.size,101,none⟩) K (.int .i64 (f:Int));have t:=ah T;have aj:=ah ab;have ad:=ah G;have ai:=ah (xz _ _ _ M _ _ H.out);clear T ab G j P k z O m J Q r7 aa;go_wp2_with (first | (refine bL R9 underlying62 t ?_) | (refine bV H t ad aj ?_))
 refine bE ai underlying62 t ⟨by rw [al.out],u9.setRowNew (by omega) _⟩
theorem pkj (k x s n d a b c) (hk:pab k) (hx:pab x) (hs:pab s) (hn:pab n) (hd:d.size<=1000000000) (q:a.length=32) (z:b.length=32) (F:c.length=32) (w) :
 Calls prog 68 #[.int .i64 k,.int .i64 x,.int .i64 s,.string d,.int .i64 n,.agg (byteVals a).toArray,.agg (byteVals b).toArray,.agg (byteVals c).toArray] w (Mk (.agg (rcV (pi6 k s n d a b c x)).toArray) w):=by
 obtain ⟨X,j⟩:∃ X:Rc,X=⟨k,s,n,d,a,b,c,0,0⟩:=⟨_,rfl⟩
 have m:X.ok:=by rw [j];exact ⟨hk,hs,hn,q,z,F,⟨show (-9223372036854775808:Int)<=0 by decide,show (0:Int)<=9223372036854775807 by decide⟩,⟨show (-9223372036854775808:Int)<=0 by decide,show (0:Int)<=9223372036854775807 by decide⟩⟩
 have ab:X.draw.size<=1000000000:=by rw [j];exact hd
 have T:pi6 k s n d a b c x=pkh X x:=by rw [j];rfl
 have HP:=ah T;clear T;have g:=pkC k s n d a b c q z F;rw [<-j] at g;obtain ⟨A,v⟩:=az ((byteVals a).toArray);obtain ⟨B,G⟩:=az ((byteVals b).toArray);obtain ⟨C,D⟩:=az ((byteVals c).toArray);have K:A.size=32:=by rw [v];simp [byteVals,q]
 have H:B.size=32:=by rw [G];simp [byteVals,z]
 have N:C.size=32:=by rw [D];simp [byteVals,F]
 rw [<-v,<-G,<-D] at g ⊢;clear v G D j;have IA:Fi 60 A:=by show _=_;rw [K];kernel_rfl
 have IB:Fi 60 B:=by show _=_;rw [H];kernel_rfl
 have IC:Fi 60 C:=by show _=_;rw [N];kernel_rfl
 clear K H N;obtain ⟨Z,hZ⟩:∃ Z,Z=Tryz.zeroCells62:=⟨_,rfl⟩
 have J:Z=(rcV Rc.zero).toArray:=by rw [hZ];rfl
 have y:((((w.alloc (.cells A 60)).alloc (.cells B 60)).alloc (.cells C 60)).alloc (.cells Z 62)).heap[w.heap.size]? =some (.cells A 60 (0,0)) :=
  paa (xi w (.cells A 60)) ((((Upd.refl [] _).alloc _).alloc _).alloc _)
 have u:((((w.alloc (.cells A 60)).alloc (.cells B 60)).alloc (.cells C 60)).alloc (.cells Z 62)).heap[w.heap.size+1]? =some (.cells B 60 (0,0)):=by
  have h:=paa (xi (w.alloc (.cells A 60)) (.cells B 60)) (((Upd.refl [] _).alloc (.cells C 60)).alloc (.cells Z 62));rw [yI] at h;exact h
 have E:((((w.alloc (.cells A 60)).alloc (.cells B 60)).alloc (.cells C 60)).alloc (.cells Z 62)).heap[w.heap.size+1+1]? =some (.cells C 60 (0,0)):=by
  have h:=paa (xi ((w.alloc (.cells A 60)).alloc (.cells B 60)) (.cells C 60)) ((Upd.refl [] _).alloc (.cells Z 62));rw [yI,yI] at h;exact h
 have r:((((w.alloc (.cells A 60)).alloc (.cells B 60)).alloc (.cells C 60)).alloc (.cells Z 62)).heap[w.heap.size+1+1+1]? =some (.cells Z 62 (0,0)):=by
  have h:=xi (((w.alloc (.cells A 60)).alloc (.cells B 60)).alloc (.cells C 60)) (.cells Z 62);rw [yI,yI,yI] at h;exact h
 have Y:Uq w ((((w.alloc (.cells A 60)).alloc (.cells B 60)).alloc (.cells C 60)).alloc (.cells Z 62)):=((((uR.alloc _).alloc _).alloc _).alloc _)
 have S:((((w.alloc (.cells A 60)).alloc (.cells B 60)).alloc (.cells C 60)).alloc (.cells Z 62)).heap.size=w.heap.size+1+1+1+1:=by simp
 obtain ⟨w4,ad⟩:=ae (((((w.alloc (.cells A 60)).alloc (.cells B 60)).alloc (.cells C 60)).alloc (.cells Z 62)));rw [ad] at y u E r Y S;have RA:=ah y;have RB:=ah u;have U:=ah E;have RZ:=ah r;clear y u E r;obtain ⟨R,t⟩:=az ((rcV X).toArray);rw [<-t] at g;have aa:=ah g;clear g;have p:=ah t;clear t;have aj:Fi 62 R:=by show _=_;rw [p.out];exact rcSz m
 have P:(pkh X x).ok:=by
  obtain ⟨o1,o2,o3,o4,o5,o6,_,_⟩:=m;have g1:=pqE (nonceN (expN x) (pa1 X));have g2:=pdL (expN x) (nonceN (expN x) (pa1 X)) (pa1 X);have p1:Pn=2305843009213691579:=rfl;have p2:Qn=1152921504606845789:=rfl;exact ⟨o1,o2,o3,o4,o5,o6,⟨show (-9223372036854775808:Int)<=(gP (nonceN (expN x) (pa1 X)):Int) by omega,show (gP (nonceN (expN x) (pa1 X)):Int)<=9223372036854775807 by omega⟩,⟨show (-9223372036854775808:Int)<=(sWith (expN x) (nonceN (expN x) (pa1 X)) (pa1 X):Int) by omega,show (sWith (expN x) (nonceN (expN x) (pa1 X)) (pa1 X):Int)<=9223372036854775807 by omega⟩⟩
 have o:Hid (∀ W,Calls prog 145 #[x,.agg R] W (Mk (.agg (rcV (pkh X x)).toArray) W)):=by
  intro W;rw [p.out];exact pki x X hx m ab W
 obtain ⟨M,f⟩:=az ((rcV (pkh X x)).toArray);rw [<-f] at o;have Q:Fi 62 M:=by show _=_;rw [f];exact rcSz P
 have ag:Fo M:=by show _=_;rw [f];exact rcOne _
 have ac:Hid (Z.size=M.size):=by show _=_;rw [f,J];simp [paM P,paM Rc.zero_ok]
 have ai:Hid (M=(rcV (pi6 k s n d a b c x)).toArray):=by show _=_;rw [f,HP.out]
 subst hZ;clear J S f;go_in;go_wp2_with (first | (refine bB aa ?_) | (refine bL RA underlying60 IA ?_) | (refine bL RB underlying60 IB ?_) | (refine bL U underlying60 IC ?_))
 refine (o.out _).mono ?_;rintro e w7 ⟨rfl,hq⟩;have u7:=Y.trans hq;have O:=ah (paa RZ.out hq);have af:=ah (xz _ _ _ M _ _ O.out);clear hq RZ RA RB U o HP p;go_wp2_with (refine bV O Q ac ag ?_)
 refine bE af underlying62 Q ⟨by rw [ai.out],u7.setRowNew (by omega) _⟩
theorem plf (k):pab (gP k:Int):=by
 have:=pqE k;unfold pab;unfold Pn at this;omega
def hb1 (b:UInt8):List UInt8:=b :: List.replicate 31 0
theorem piB (b):(hb1 b).length=32:=by simp [hb1]
theorem pkk (b):prog.built 60 [(0,.int .u8 (b.toNat:Int))]=some (byteVals (hb1 b)).toArray:=by kernel_rfl
theorem pqw:prog.built 60 []=some (byteVals zero32).toArray:=by kernel_rfl
def pqx:ByteArray:=⟨#[108,111,116,116,111]⟩
def b8 (n:Int):UInt8:=UInt8.ofNat (n % 256).toNat
theorem pmG (n):((b8 n).toNat:Int)=IntKind.u8.wrap n:=by
 rw [uL];have h1:=yF n (by omega:(256:Int)≠0);have a:=yj n (by omega:(0:Int)<256);unfold b8;rw [yn];omega
def prR (q:Nat) (s n:Nat->Int) (j:Nat):Rc:=pi6 (70+(q:Int)) (s j) (n j) pqx (hb1 (b8 (n j))) (hb1 (b8 (j:Int))) zero32 (kskSec q:Int)
theorem pkl (q s n j) (hq:q<2) (f:pab (s j)) (e:pab (n j)):(prR q s n j).ok:=by
 have d:∀ a b c,pab (sWith a b c:Int):=fun a b c=>by
  have:=pdL a b c;unfold pab;unfold Qn at this;omega
 exact ⟨by show pab (70+(q:Int));unfold pab;omega,f,e,piB _,piB _,by simp [prR,pi6,zero32],plf _,d _ _ _⟩
def rsV (R:Nat->Rc) (k:Nat):List Value:=rcV (if 0<k then R 0 else Rc.zero) ++ rcV (if 1<k then R 1 else Rc.zero)
theorem pbW {R} (h:∀ j,j<2->(R j).ok) (k):(rsV R k).length=204:=by
 have g:∀ j,j<2->(rcV (if j<k then R j else Rc.zero)).length=102:=fun j a=>by
  split
  · exact paM (h j a)
  · exact paM Rc.zero_ok
 unfold rsV;rw [xr,g 0 (by omega),g 1 (by omega)]
theorem prI {R} (h:∀ j,j<2->(R j).ok) {k} (a:k<2):paY (rsV R k).toArray (k * 102) (rcV (R k))=(rsV R (k+1)).toArray:=by
 match k,a with
 | 0,_ =>
  have e:=pcR (rcV (R 0)) [] (rcV Rc.zero) (rcV Rc.zero) (by rw [paM (h 0 (by omega)),paM Rc.zero_ok]);exact e
 | 1,_ =>
  have e:=pcR (rcV (R 1)) (rcV (R 0)) (rcV Rc.zero) [] (by rw [paM (h 1 (by omega)),paM Rc.zero_ok]);rw [paM (h 0 (by omega)),yl,yl] at e;exact e
def pt7 (R:Nat->Rc) (w:World) (e:Ending) (w':World):Prop:=e=.returned (.agg (rsV R 2).toArray)/\Upd [] [] w w'
theorem pmH {V:List Value} (h:V.length=204):(prog.info? 82).map (·.size)=some V.toArray.size:=by
 rw [yJ,h];kernel_rfl
theorem pg1 (l L K P KM S C KS w) (hC:CaseRd l w L K P KM S C KS) (q:Nat) (hq:q<2) (s n) (hs:∀ j,j<2->pab (s j)) (T:∀ j,j<2->pab (n j)) :
 Calls prog 22 #[.agg (csV L K P KM S C KS),q,.agg #[.int .i64 (s 0),.int .i64 (s 1)],.agg #[.int .i64 (n 0),.int .i64 (n 1)]] w (pt7 (prR q s n) w):=by
 obtain ⟨R,hR⟩:=az (prR q s n);have aC:∀ j,j<2->(R j).ok:=fun j B=>by rw [hR];exact pkl q s n j hq (hs j B) (T j B)
 obtain ⟨ma,mc,rfl,_,_,hM⟩:=hC.kmem;obtain ⟨CA,aa⟩:=az (csV L K P (.slice ma 2 mc) S C KS);obtain ⟨v,rfl,aA,cm,_,_⟩:=hM q (peE q) (by simp [kskL,hq]);have X:=hC.ksec;obtain ⟨sa,sc,rfl,_,_⟩:=X.form;obtain ⟨A,rfl,cs⟩:=X.get (k:=q) (d:=kskSec q) (by simp [kskS,hq]);rw [pfP] at aa X;rw [pfP,<-aa];have aM:=x6 _ _ cs;obtain ⟨m,aO⟩:=ae (w.heap.size);obtain ⟨w0,aB⟩:=ae (w.alloc (.cells CA 36));have r0:=aW aO aB;have u0:=aU aB;obtain ⟨J,a0⟩:=ae (w0.heap.size);obtain ⟨w1,aJ⟩:=ae (w0.alloc (.cells #[.int .i64 (s 0),.int .i64 (s 1)] 24));have r1:=aW a0 aJ;have u1:=aU aJ;obtain ⟨F,aS⟩:=ae (w1.heap.size);obtain ⟨w2,aI⟩:=ae (w1.alloc (.cells #[.int .i64 (n 0),.int .i64 (n 1)] 24));have r2:=aW aS aI;have u2:=aU aI;obtain ⟨Z,hZ⟩:∃ Z,Z=Tryz.zeroCells82:=⟨_,rfl⟩
 have ay:Z=(rsV R 0).toArray:=by rw [hZ];rfl
 obtain ⟨gR,aP⟩:=ae (w2.heap.size);obtain ⟨w3,ap⟩:=ae (w2.alloc (.cells Z 82));have r3:=aW aP ap;have Q:=aU ap;obtain ⟨a,a6⟩:=ae (w3.heap.size);obtain ⟨w4,ar⟩:=ae (w3.alloc (.cells Z 82));have r4:=aW a6 ar;have G:=aU ar;have b0:=paf r0;have b1:=paf r1;have b2:=paf r2;have b3:=paf r3;have av:Hid (w.heap.size<=m/\m<J/\J<F/\F<gR/\gR<a):=by show _/\_;omega
 have RC:=ah (paa (paa (paa (paa r0 u1) u2) Q) G);have RS:=ah (paa (paa (paa r1 u2) Q) G);have RN:=ah (paa (paa r2 Q) G);have RR:=ah (paa r3 G);have RO:=ah r4;have U4:=ah ((((u0.trans u1).trans u2).trans Q).trans G);rw [hZ] at ap ar;have aH:Hid (∀ j,j<2->(#[.int .i64 (s 0),.int .i64 (s 1)]:Array Value)[j]? =some (.int .i64 (s j))/\(#[.int .i64 (n 0),.int .i64 (n 1)]:Array Value)[j]? =some (.int .i64 (n j))):=fun j B=>by
  match j,B with
  | 0,_=>exact ⟨rfl,rfl⟩
  | 1,_=>exact ⟨rfl,rfl⟩
 have a8:Hid (∀ W,Uq w W->W.cell? ⟨v,q * 3,none⟩=some (.int .i64 (70+(q:Int)))/\W.cell? ⟨A,q,none⟩=some (.int .i64 (kskSec q:Int))):=fun W u=>⟨(u.cell (p:=⟨v,q * 3,none⟩) aA (by simp)).trans cm,(u.cell (p:=⟨A,q,none⟩) aM (by simp)).trans cs⟩
 have aN:Hid (CA[3]? =some (.slice (some ⟨v,0,none⟩) 2 mc)/\CA[12]? =some (.slice (some ⟨A,0,none⟩) 2 sc)):=by rw [aa];exact ⟨rfl,rfl⟩
 have aT:Hid (∀ j,j<2->∀ W,Calls prog 68 #[.int .i64 (70+(q:Int)),.int .i64 (kskSec q:Int),.int .i64 (s j),.string pqx,.int .i64 (n j),.agg (byteVals (hb1 (b8 (n j)))).toArray,.agg (byteVals (hb1 (b8 (j:Int)))).toArray,.agg (byteVals zero32).toArray] W (Mk (.agg (rcV (R j)).toArray) W)):=fun j B W=>by
  rw [hR];exact pkj (70+(q:Int)) (kskSec q:Int) (s j) (n j) pqx _ _ _ (by unfold pab;omega) (by have:=poa (ppZ q);unfold kskSec pab;unfold Qn at this;omega) (hs j B) (T j B) (by show 5<=_;omega) (piB _) (piB _) (by simp [zero32]) W
 have f:=ah aC;have aE:Z=(rsV R 0).toArray:=ay;rw [aE] at RO RR;rw [<-hR];have q0:(0:Int)<=(q:Int):=by omega
 have q1:(q:Int)<2:=by omega
 clear hC hM X cm cs aA aM hR aC hs T r0 r1 r2 r3 r4 u0 u1 u2 Q G b0 b1 b2 b3 aa ay aE hZ;go_in;go_wp2;go_loopw [10] (fun i wr=>∃ k:Nat,i=.int .i64 (k:Int)/\k<=2/\Hid (wr.heap[a]? =some (.cells (rsV R k).toArray 82 (0,0)))/\Hid (Upd [a] [a] w4 wr)) (fun i _=>2 - (intOf i).toNat)
 case atStart=>exact ⟨0,rfl,xu _,RO.out,Upd.refl _ _⟩
 case round =>
  obtain ⟨k,rfl,hk,HR,HU⟩:=hrel;by_cases t:k<2
  · obtain ⟨sk,au⟩:=ae (s k);obtain ⟨O,an⟩:=ae (n k);obtain ⟨c,D⟩:=az ((rcV (R k)).toArray);have M:=ah (aT.out k t);rw [au,an,<-D] at M;obtain ⟨bn,af⟩:=az (b8 O);obtain ⟨bk,al⟩:=az (b8 (k:Int));have e1:IntKind.u8.wrap O=(bn.toNat:Int):=by rw [af,pmG]
    have e2:IntKind.u8.wrap (k:Int)=(bk.toNat:Int):=by rw [al,pmG]
    rw [<-af,<-al] at M;obtain ⟨C1,ag⟩:=az ((byteVals (hb1 bn)).toArray);obtain ⟨C2,aq⟩:=az ((byteVals (hb1 bk)).toArray);obtain ⟨C3,ao⟩:=az ((byteVals zero32).toArray);have a5:Hid (prog.built 60 [(0,.int .u8 (bn.toNat:Int))]=some C1):=by rw [ag];exact pkk bn
    have aY:Hid (prog.built 60 [(0,.int .u8 (bk.toNat:Int))]=some C2):=by rw [aq];exact pkk bk
    have a9:Hid (prog.built 60 []=some C3):=by rw [ao];exact pqw
    rw [<-ag,<-aq,<-ao] at M;have aL:Hid (∀ W,Calls prog 68 #[.int .i64 (70+(q:Int)),.int .i64 (kskSec q:Int),sk,.string ⟨#[108,111,116,116,111]⟩,O,.agg C1,.agg C2,.agg C3] W (Mk (.agg c) W)):=M.out;obtain ⟨id,ad⟩:∃ x:Int,70+(q:Int)=x:=⟨_,rfl⟩
    obtain ⟨sec,ac⟩:=ae ((kskSec q:Int));rw [ad,ac] at aL;have ai:Hid (∀ W,Upd [a] [a] w4 W->W.cell? ⟨m,3,none⟩=some (.slice (some ⟨v,0,none⟩) 2 mc)/\W.cell? ⟨m,12,none⟩=some (.slice (some ⟨A,0,none⟩) 2 sc)/\W.cell? ⟨v,q * 3,none⟩=some (.int .i64 id)/\W.cell? ⟨A,q,none⟩=some (.int .i64 sec)/\W.cell? ⟨J,k,none⟩=some (.int .i64 sk)/\W.cell? ⟨F,k,none⟩=some (.int .i64 O)):=fun W u=>by
     have hw:=a8.out W (U4.out.past u (fun x N=>by simp at N;rw [N];have:=av.out;omega));have hb:∀ g o,w4.heap[g]? =some o->g≠a->W.heap[g]? =some o:=fun g o h T=>(u.block g (paf h) (by simpa using T)).trans h;have aD:=av.out;have a1:=hb m _ RC.out (by omega);have a2:=hb J _ RS.out (by omega);have a3:=hb F _ RN.out (by omega);refine ⟨(xa _ m 3 _ _ _ a1).trans aN.out.1,(xa _ m 12 _ _ _ a1).trans aN.out.2,by rw [<-ad];exact hw.1,by rw [<-ac];exact hw.2,?_,?_⟩
     · rw [<-au];exact (xa _ J k _ _ _ a2).trans (aH.out k t).1
     · rw [<-an];exact (xa _ F k _ _ _ a3).trans (aH.out k t).2
    have ax:c.size=102:=by rw [D,yJ,paM (f.out k t)]
    have bc:Fi 62 c:=by show _=_;rw [D,yJ];exact pdy (f.out k t)
    have aZ:Fo c:=by
     obtain ⟨_,h,_⟩:=pdA (f.out k t) c D;exact h.out
    have aQ:Hid (∀ W:World,W.heap[a]? =some (.cells (rsV R k).toArray 82 (0,0))->W.there a (k * 102) c.size):=fun W h=>pay h (by rw [ax,yJ,pbW f.out k];omega);have bd:Hid (paY (rsV R k).toArray (k * 102) c.toList=(rsV R (k+1)).toArray):=by show _=_;rw [D];exact prI f.out t
    have aK:Uq wr wr.drew:=uR.drew;have k0:(0:Int)<=(k:Int):=by omega
    have k1:(k:Int)<2:=by omega
    have aw:Hid (∀ W,Uq wr W->Upd [a] [a] w4 W):=fun W u=>HU.out.trans (u.mono (fun _ h=>absurd h (by simp)) (fun _ h=>.inr h));clear au an D af al ag aq ao M ad ac ax;go_upto_region 5 with (fail)
    refine bG (S:=fun E=>E.cell? ⟨m,3,none⟩=some (.slice (some ⟨v,0,none⟩) 2 mc)/\E.cell? ⟨m,12,none⟩=some (.slice (some ⟨A,0,none⟩) 2 sc)/\E.cell? ⟨v,q * 3,none⟩=some (.int .i64 id)/\E.cell? ⟨A,q,none⟩=some (.int .i64 sec)/\E.cell? ⟨J,k,none⟩=some (.int .i64 sk)/\E.cell? ⟨F,k,none⟩=some (.int .i64 O)) (ai.out _ (aw.out _ aK)) fun r=>?_;refine tkS [0,1,2,3,4,5,6,7,8,9,10,11,12,13,14,15,16,17,18,19,20,21,22] r ?_;refine tkT 23 r ?_ (y:=(pav (by rfl) 60 _ rfl C1 (zP (xU (fun z=>prog.built 60 z) (by kernel_rfl)) a5.out)));refine tkS [24,25] r ?_;refine tkT 26 r ?_ (y:=(pav (by rfl) 60 _ rfl C2 (zP (xU (fun z=>prog.built 60 z) (by kernel_rfl)) aY.out)));refine tkT 27 r ?_ (y:=(pav (by rfl) 60 _ rfl C3 (zP (xU (fun z=>prog.built 60 z) (by kernel_rfl)) a9.out)));refine tk1 28 fun K U=>?_;go_simp;refine (aL.out _).mono ?_;rintro e aF ⟨rfl,hq⟩;have ab:=aK.trans hq;clear hq;dsimp only;try rw [xH (by rfl)]
    refine tkK U (ai.out _ (aw.out _ ab)) fun r=>?_;clear U K;refine tkY 29 r ?_;refine tk1 30 fun K U=>?_;rw [xH (by rfl)];refine vf 62 _ _ rfl a (k * 102) c rfl rfl (aQ.out _ (paa HR.out ab)) bc.out aZ.out ?_;have fO:=paP a _ c.toList (k * 102) aF _ (paa HR.out ab);rw [bd.out] at fO;have uO:=Upd.setCellsIn (g:=a) (by simp) c.toList (k * 102) _ (aw.out _ ab);obtain ⟨W9,aG⟩:=az (aF.setCells a (k * 102) c.toList);rw [<-aG] at fO uO ⊢;clear aG;refine tkK U (ai.out _ uO) fun r=>?_;clear U K;refine tkD ?_;go_wp2_with fail;exact ⟨⟨k+1,by go_num,by omega,fO,uO⟩,(by first | (simp [intOf];done) | (simp [intOf];omega))⟩
  · obtain rfl:k=2:=by omega
    obtain ⟨V,H⟩:=az ((rsV R 2).toArray);have aj:=HR.out;rw [<-H] at aj;have ba:=ah aj;have aD:=av.out;have ak:wr.heap[gR]? =some (.cells (rsV R 0).toArray 82 (0,0)):=(HU.out.block gR (paf RR.out) (by simp;omega)).trans RR.out;have am:Fi 82 V:=by show _=_;rw [H];exact pmH (pbW f.out 2)
    have a4:Fo V:=by
     obtain ⟨_,h0,_⟩:=pdA (f.out 0 (by omega)) _ rfl;obtain ⟨_,h1,_⟩:=pdA (f.out 1 (by omega)) _ rfl;have e0:=h0.out;have e1:=h1.out;show _=_;rw [H];simp only [rsV,uB,List.all_append,xH (by omega:0<2),xH (by omega:1<2)];rw [uB] at e0 e1;rw [e0,e1];rfl
    have aR:Hid ((rsV R 0).toArray.size=V.size):=by show _=_;rw [H,yJ,yJ,pbW f.out,pbW f.out]
    obtain ⟨w9,Y⟩:=ae (wr.setRow gR V);have bb:=ah Y;have R9:=ah (show w9.heap[gR]? =some (.cells V 82 (0,0)) by rw [<-Y];exact xz _ _ _ _ _ _ ak);have UW:=U4.out.past HU.out (fun x N=>by simp at N;rw [N];omega);have U9:=ah (show Uq w w9 by rw [<-Y];exact UW.setRowNew (by omega) _);have aV:=ah ak;have a7:=ah H;clear H aj aD ak Y UW;go_wp2_with (first | (refine bL ba underlying82 am ?_) | (refine bS aV am aR a4 bb ?_))
    refine bE R9 underlying82 am ⟨by rw [a7.out],U9.out⟩
end Go.Proofs.YtkhjolbbpdaplaaGreatDoor
