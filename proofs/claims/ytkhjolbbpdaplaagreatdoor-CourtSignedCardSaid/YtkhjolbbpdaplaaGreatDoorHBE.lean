/- A builder beside which other blocks keep and what follows. -/
import Derived.Test.YtkhjolbbpdaplaaGreatDoorHBD
import Derived.Shelf.Strings.BuilderK
namespace Go.Proofs.YtkhjolbbpdaplaaGreatDoor
set_option maxHeartbeats 8000000
open Go.RowKit Go.Proofs.Tryz
set_option maxRecDepth 100000
theorem pfo {T e B b p l w w'} (h:Lib.BuilderAtF T e B b p l w) (u:Uq w w'):Lib.BuilderAtF T e B b p l w':=by
 obtain ⟨h1,v,n,a,o⟩:=h;refine ⟨h1,v,paa n u,⟨a.1,?_⟩,o⟩;rcases a.2 with f | ⟨g,c,d,fz,j,k,m,r⟩
 · exact .inl f
 · exact .inr ⟨g,c,d,fz,j,k,paa m u,r⟩
structure BtK (W0:World) (b:Nat) (wi:World) (acc:List UInt8):Prop where
 bd:Lib.IsBuilderF 172 5 W0.heap.size b (Lib.byteCells acc) wi
 up:Upd [] [] W0 wi
theorem BtK.upd {c e d b a} (h:BtK c b e a) (u:Uq e d):BtK c b d a :=
 ⟨h.bd.imp (fun k=>pfo k u) (fun k=>pfo k u),h.up.trans u⟩
theorem BtK.start (a):BtK a a.heap.size (a.alloc (.cells #[.pointer none,.slice none 0 0] 172)) []:=⟨Lib.IsBuilderF.of (Lib.fresh_isBuilder _ _ a),uR.alloc _⟩
theorem BtK.write {d c b a} (h:BtK d b c a) (s) (j:a.length+s.size<=140737488355328) :
 Calls prog 128 #[.pointer (some ⟨b,0,none⟩),.string s] c (fun e w'=>e=.returned (.tuple #[.int .i64 s.size,.nilIface])/\BtK d b w' (a ++ bs s)/\Lib.OthersKept 5 (some b) c w'):=by
 have g:(Lib.byteCells a).length=a.length:=by simp [Lib.byteCells]
 refine (Any.Builder_WriteString_k { Tryz.lays156 with } Tryz.Builder_Extra_156 d.heap.size b (Lib.byteCells a) s c h.bd (by rw [g];exact j) h.up.size).mono ?_;rintro e w' ⟨rfl,f,k,n⟩;have m:Lib.byteCells a ++ Lib.strCells s=Lib.byteCells (a ++ bs s):=by simp [Lib.byteCells,Lib.strCells,bs]
 rw [m] at f;exact ⟨rfl,⟨.inr f,phc h.up k⟩,n⟩
theorem BtK.text {c d b a} (h:BtK c b d a) (h0:a≠[]) :
 Calls prog 129 #[.pointer (some ⟨b,0,none⟩)] d (fun e w'=>e=.returned (.string ⟨a.toArray⟩)/\BtK c b w' a):=by
 refine (Any.Builder_String_k { Tryz.lays156 with } Tryz.Builder_Extra_156 c.heap.size b a d h.bd h0).mono ?_;rintro e w' ⟨rfl,f,g,_⟩;exact ⟨rfl,f,phc h.up g⟩
def WrAt (w:World) (gW b:Nat):Prop:=w.heap[gW]? =some (.cells #[.func (.func 128) #[.pointer (some ⟨b,0,none⟩)] #[]] 152 (0,0))
theorem WrAt.kept {w w' a b} (h:WrAt w a b) (d:a≠b) (k:Lib.OthersKept 5 (some b) w w'):WrAt w' a b :=
 k a _ h (by simpa using d) (fun c fz e=>by
  injection e with _ e2 _
  exact absurd e2 (by decide))
theorem WrAt.upd {w w' a b} (h:WrAt w a b) (u:Uq w w'):WrAt w' a b:=paa h u
theorem WrAt.cell {w a b} (h:WrAt w a b):w.cell? ⟨a,0,none⟩=some (.func (.func 128) #[.pointer (some ⟨b,0,none⟩)] #[]):=xa _ a 0 _ _ _ h
theorem pio {p o b d g} (n) (G:pab n) (h:BtK p b o g) (w:g.length<=140737488000000) (m:WrAt o d b) (z:d≠b) (H:Tabs p) :
 Calls prog 295 #[.int .i64 n,.pointer (some ⟨d,0,none⟩)] o (fun e w'=>e=.returned (.tuple #[])/\BtK p b w' (g ++ 32 :: Lib.itoa n)/\WrAt w' d b):=by
 have F:=ah h;have E:=ah m;have N:=m.cell;have D:=ah w;have B:=ah G;clear h m w G;go_in;go_wp2_with (go_at_fn 128)
 refine (F.out.write ⟨#[32]⟩ (by have:=D.out;show _+1<=_;omega)).mono ?_;rintro e x ⟨rfl,hb1,a⟩;have r:=ah hb1;have j:=ah (E.out.kept z a);clear hb1 a N F E;have R:=j.out.cell;go_upto_region 1 with (fail)
 have k:Uq x x.drew:=uR.drew;refine bG (S:=fun O=>O.cell? ⟨d,0,none⟩=some (.func (.func 128) #[.pointer (some ⟨b,0,none⟩)] #[])) ((j.out.upd k).cell) fun f=>?_;refine tkS [0,1] f ?_;refine tk1 2 fun K c=>?_;go_simp;refine (paA n _ B.out (H.upd (r.out.up.trans k))).mono ?_;rintro e Q ⟨y,C,A,rfl,hq⟩;have q:=k.trans hq;have J:=ah (r.out.upd q);have u:=ah (j.out.upd q);have t:=ah (xf C.out A);clear hq C A;go_wp2_with fail;refine tkK c (u.out.cell) fun f=>?_;clear c K;refine tk1 3 fun K c=>?_;go_simp;refine (J.out.write y (by have:=D.out;have:=itoa_len n B.out;have:=t.out.2;simp only [xr];show _+1+_<=_;omega)).mono ?_;rintro e P ⟨rfl,hb1,a⟩;have M:=ah hb1;have v:=ah (u.out.kept z a);clear hb1 a;go_wp2_with fail;refine tkK c (v.out.cell) fun f=>?_;clear c K;refine tkD ?_;go_wp2_with fail;go_end0;refine ⟨rfl,?_,v.out⟩;have h:=M.out;rw [t.out.1,xG] at h;exact h
def dtxA (d:DlI) (k:Nat):List UInt8:=pe8 ++ paN (Lib.itoa (d.coms.length:Int) :: (d.coms.take k).map Lib.itoa)
def dtxB (d:DlI) (k:Nat):List UInt8:=dtxA d d.coms.length ++ paN (Lib.itoa d.point :: (d.boxes.take k).map hexL)
theorem pqa {d k x} (h:d.coms[k]? =some x):dtxA d (k+1)=dtxA d k ++ 32 :: Lib.itoa x:=by
 unfold dtxA;rw [xN,h];simp [paN]
theorem pqb {d k x} (h:d.boxes[k]? =some x):dtxB d (k+1)=dtxB d k ++ 32 :: hexL x:=by
 unfold dtxB;rw [xN,h];simp [paN]
theorem prw (d):dtxB d d.boxes.length=d.text:=by
 rw [DlI.text_eq];unfold dtxB dtxA;rw [yb,yb];simp [paN]
theorem pip {α:Type} (f:α->List UInt8) (m):∀ l:List α,(∀ x∈l,(f x).length<=m)->(paN (l.map f)).length<=(m+1) * l.length
 | [],_=>by simp [paN]
 | x :: r,h=>by
  have h1:=pip f m r (fun y a=>h y (by simp [a]))
  have c:=h x (by simp)
  have e:paN ((x :: r).map f)=32 :: (f x ++ paN (r.map f)):=by simp [paN]
  rw [e,xF,xr,xF,yQ]
  omega
def DlI.fit (d:DlI):Prop:=(∀ c∈d.coms,pab c)/\pab d.point/\d.coms.length<=1000000/\d.boxes.length<=1000000/\∀ b∈d.boxes,b.length<=1000000
theorem piq {d} (h:d.fit) {k} (j:k<=d.coms.length):(dtxA d k).length<=30000000:=by
 have h1:=pip Lib.itoa 20 (d.coms.take k) (fun x a=>itoa_len _ (h.1 x (zA a)));have f:=itoa_len (d.coms.length:Int) (by have:=h.2.2.1;unfold pab;omega);have g:(d.coms.take k).length<=1000000:=by have:=h.2.2.1;simp;omega
 have e:dtxA d k=pe8 ++ (32 :: (Lib.itoa (d.coms.length:Int) ++ paN ((d.coms.take k).map Lib.itoa))):=by simp [dtxA,paN]
 have c:pe8.length=4:=rfl;rw [e,xr,xF,xr,c];omega
theorem prx {d} (h:d.fit) {k} (g:k<=d.boxes.length):(dtxB d k).length<=3000000000000:=by
 have h0:=piq h (xj d.coms.length);have h1:=pip hexL 2000000 (d.boxes.take k) (fun x a=>by have:=h.2.2.2.2 x (zA a);rw [paO];omega);have c:=itoa_len d.point h.2.1;have f:(d.boxes.take k).length<=1000000:=by have:=h.2.2.2.1;simp;omega
 have e:dtxB d k=dtxA d d.coms.length ++ (32 :: (Lib.itoa d.point ++ paN ((d.boxes.take k).map hexL))):=by simp [dtxB,paN]
 rw [e,xr,xF,xr];omega
theorem hexX {x z} (a:x<16) (c:z=x+1):bs ((⟨#[48,49,50,51,52,53,54,55,56,57,97,98,99,100,101,102]⟩:ByteArray).extract x z)=[hexD x]:=by
 subst c;have:∀ x:Fin 16,bs ((⟨#[48,49,50,51,52,53,54,55,56,57,97,98,99,100,101,102]⟩:ByteArray).extract x.val (x.val+1))=[hexD x.val]:=by decide
 exact this ⟨x,a⟩
theorem pqc {x:List UInt8} {q c} (h:x[q]? =some c):hexL (x.take (q+1))=hexL (x.take q) ++ [hexD (c.toNat / 16),hexD (c.toNat % 16)]:=by
 rw [xN,h]
 induction x.take q with
 | nil=>rfl
 | cons a r ih=>simp only [yA,hexL];rw [ih]
theorem pfp (d:DlI) (cv bv w) (hd:d.fit) (G:RdI w cv d.coms) (hb:RdS w bv d.boxes) (aC:Tabs w):Calls prog 264 #[.agg #[cv,d.point,bv]] w (MkS d.text w):=by
 obtain ⟨g,hg⟩:=ae (w.heap.size);obtain ⟨f,al⟩:=ae (w.alloc (.cells #[cv,d.point,bv] 142));have r0:=aW hg al;have u0:=aU al;obtain ⟨b,aL⟩:=ae (f.heap.size);have C:=BtK.start f;obtain ⟨J,aM⟩:=ae (f.alloc (.cells #[.pointer none,.slice none 0 0] 172));rw [aM,aL] at C;have bf:J.heap.size=b+1:=by rw [<-aM,yI,aL]
 obtain ⟨a,aQ⟩:=ae (J.heap.size);have R:=ah hd;have HC:=ah (G.upd u0);have bd:=ah (hb.upd u0);have HT:=ah (aC.upd u0);obtain ⟨ca,cc,af,bh,_,_⟩:=G.form;obtain ⟨ba,bc,aj,a2,_,_⟩:=hb.form;obtain ⟨m,hm⟩:=az (d.coms.length);obtain ⟨n,hn⟩:=az (d.boxes.length);rw [<-hm] at af bh;rw [<-hn] at aj a2;have HM:=ah hm;have HN:=ah hn;have bj:m<=1000000/\n<=1000000:=by have:=hd.2.2;omega
 obtain ⟨P,hP⟩:=az (d.point);have HP:=ah hP;have HK:Hid (∀ W,Uq f W->W.cell? ⟨g,0,none⟩=some (.slice ca m cc)/\W.cell? ⟨g,1,none⟩=some (.int .i64 P)/\W.cell? ⟨g,2,none⟩=some (.slice ba n bc)):=fun W u=>by
  have h:=paa r0 u;refine ⟨?_,?_,?_⟩
  · rw [xa _ g 0 _ _ _ h,<-af];rfl
  · rw [xa _ g 1 _ _ _ h,hP];rfl
  · rw [xa _ g 2 _ _ _ h,<-aj];rfl
 have U0:=ah u0;have aZ:=ah af;have a8:=ah aj;have aR:=ah C;have D:Hid (a≠b):=by show _≠_;omega
 rw [<-hP] at al ⊢;clear hd G hb aC r0 u0 hm hn hP af aj C bf;have hA:(J.alloc (.cells #[.nilFunc] 152)).heap[a]? =some (.cells #[.nilFunc] 152 (0,0)):=by rw [<-aQ];exact xi _ _
 have cA:=(xa _ a 0 _ _ _ hA).trans (show _=some Value.nilFunc from rfl);have fA:=xp _ a 0 _ _ hA;obtain ⟨w2,ag⟩:=ae ((J.alloc (.cells #[.nilFunc] 152)).setCell ⟨a,0,none⟩ (.func (.func 128) #[.pointer (some ⟨b,0,none⟩)] #[]));have q2:Uq J w2:=by rw [<-ag];exact (uR.alloc _).setNew (p:=⟨a,0,none⟩) (xJ aQ) _
 have ax:Hid (WrAt w2 a b):=by
  show WrAt _ _ _;rw [<-ag];exact xg _ a 0 _ _ _ hA
 have ak:=ah (aR.out.upd q2);have cW:=ax.out.cell;clear q2 aR hA;have aY:(store ⟨a,0,none⟩ (.func (.func 128) #[.pointer (some ⟨b,0,none⟩)] #[])).run prog (J.alloc (.cells #[.nilFunc] 152))=.ok () w2:=by
  rw [run_store prog _ _ _ _ rfl];rw [cA,<-ag];simp [fA]
 have bl:∀ (fn:Fn) (first aJ:Array Value) (w:World),(Instr.makeFunc fn first aJ).run prog w=.ok (.func fn first aJ) w:=fun _ _ _ _=>rfl;obtain ⟨O,N,Q⟩:=HK.out w2 ak.out.up;go_in;go_wp2_with (go_at_fn 128)
 refine (ak.out.write ⟨#[100,101,97,108]⟩ (by show 0+4<=_;omega)).mono ?_;rintro e w3 ⟨rfl,hb1,o⟩;have aw:=ah hb1;have aO:=ah (ax.out.kept D.out o);obtain ⟨O,N,Q⟩:=HK.out w3 aw.out.up;clear hb1 o ag aY cA fA ax ak cW;go_wp2_with (go_at_fn 295)
 refine (pio (m:Int) (by unfold pab;omega) aw.out (by show 4<=_;omega) aO.out D.out HT.out).mono ?_;rintro e w4 ⟨rfl,hb1,A⟩;have aE:Hid (BtK f b w4 (dtxA d 0)):=by
  have e:dtxA d 0=[] ++ bs ⟨#[100,101,97,108]⟩ ++ 32 :: Lib.itoa (m:Int):=by rw [HM.out];simp [dtxA,paN,pe8,bs]
  show BtK _ _ _ _;rw [e];exact hb1
 have a9:=ah A;obtain ⟨O,N,Q⟩:=HK.out w4 aE.out.up;clear hb1 A aw aO;go_wp2_with fail;clear O N Q;go_loopw [7,23] (fun _ i wr=>∃ k:Nat,i=.int .i64 (k:Int)/\k<=m/\Hid (BtK f b wr (dtxA d k))/\Hid (WrAt wr a b)) (fun _ i _=>m - (intOf i).toNat)
 case atStart=>exact ⟨0,rfl,xu _,aE.out,a9.out⟩
 case round =>
  obtain ⟨k,rfl,o,r,M⟩:=hrel;by_cases aV:k<m
  · obtain ⟨x,t⟩:∃ x,d.coms[k]? =some x:=⟨_,xd (by rw [<-HM.out];exact aV)⟩
    have a6:=R.out.1 x (xt t);obtain ⟨ao,cp,Z,_,_,X⟩:=(HC.out.upd r.out.up).form;obtain ⟨bb,Y,_,aa⟩:=X k x t;have a5:ca=some ⟨bb,0,none⟩:=by
     have h:=aZ.out.symm.trans Z;simp only [zD] at h;rw [h.1,Y]
    have C:=ah (pqa t);have y:=ah (piq R.out (show k<=d.coms.length by rw [<-HM.out];omega));have i0:(0:Int)<=(k:Int):=by omega
    have i1:(k:Int)<(m:Int):=by omega
    subst a5;clear t Y Z X;go_wp2_with (go_at_fn 295)
    refine (pio x a6 r.out (by have:=y.out;omega) M.out D.out HT.out).mono ?_;rintro e w5 ⟨rfl,hb1,A⟩;rw [<-C.out] at hb1;have ai:=ah hb1;have an:=ah A;clear hb1 A aa;go_wp2_with fail;exact ⟨⟨k+1,by go_num,by omega,ai.out,an.out⟩,by first | (simp [intOf];done) | (simp [intOf];omega)⟩
  · obtain rfl:k=m:=by omega
    obtain ⟨O,N,Q⟩:=HK.out wr r.out.up;have y:=ah (piq R.out (show k<=d.coms.length by rw [<-HM.out];omega));have aI:pab P:=by rw [HP.out];exact R.out.2.1
    go_wp2_with (go_at_fn 295)
    refine (pio P aI r.out (by have:=y.out;omega) M.out D.out HT.out).mono ?_;rintro e w5 ⟨rfl,hb1,A⟩;have ai:Hid (BtK f b w5 (dtxB d 0)):=by
     have e:dtxB d 0=dtxA d k ++ 32 :: Lib.itoa P:=by rw [HM.out,HP.out];simp [dtxB,paN]
     show BtK _ _ _ _;rw [e];exact hb1
    have an:=ah A;obtain ⟨O,N,Q⟩:=HK.out w5 ai.out.up;clear hb1 A r M y aI;go_wp2_with fail;clear O N Q;go_loopw [9,10,38,46] (fun _ _ i _ wr=>∃ k:Nat,i=.int .i64 (k:Int)/\k<=n/\Hid (BtK f b wr (dtxB d k))/\Hid (WrAt wr a b)) (fun _ _ i _ _=>n - (intOf i).toNat)
    case atStart=>exact ⟨0,rfl,xu _,ai.out,an.out⟩
    case round =>
     obtain ⟨j,rfl,hj,r,M⟩:=hrel;by_cases a4:j<n
     · obtain ⟨x,t⟩:∃ x,d.boxes[j]? =some x:=⟨_,xd (by rw [<-HN.out];exact a4)⟩
       have aG:=R.out.2.2.2.2 x (xt t);obtain ⟨ao,cp,Z,_,_,X⟩:=(bd.out.upd r.out.up).form;obtain ⟨bb,Y,_,aa⟩:=X j x t;have bi:ba=some ⟨bb,0,none⟩:=by
        have h:=a8.out.symm.trans Z;simp only [zD] at h;rw [h.1,Y]
       obtain ⟨c,ap⟩:∃ s:ByteArray,s=⟨x.toArray⟩:=⟨_,rfl⟩
       have ar:bs c=x:=by rw [ap,pcM]
       have aS:wr.cell? ⟨bb,j,none⟩=some (.string c):=by rw [aa,ap];rfl
       have C:=ah (pqb t);have y:=ah (prx R.out (show j<=d.boxes.length by rw [<-HN.out];omega));have i0:(0:Int)<=(j:Int):=by omega
       have i1:(j:Int)<(n:Int):=by omega
       have bp:c.size<=1000000:=by rw [paF ar];exact aG
       have aq:=ah ar;have cW:=M.out.cell;subst bi;clear t Y Z X aa ap ar aG;go_wp2_with (go_at_fn 128)
       refine (r.out.write ⟨#[32]⟩ (by have:=y.out;show _+1<=_;omega)).mono ?_;rintro e w6 ⟨rfl,hb1,o⟩;have aD:=ah hb1;have aH:=ah (M.out.kept D.out o);clear hb1 o aS cW;go_wp2;go_loopw [10,46] (fun _ i wi=>∃ q:Nat,i=.int .i64 (q:Int)/\q<=c.size/\Hid (BtK f b wi (dtxB d j ++ 32 :: hexL (x.take q)))/\Hid (WrAt wi a b)) (fun _ i _=>c.size - (intOf i).toNat)
       case atStart =>
        have h:=aD.out;exact ⟨0,rfl,xu _,h,aH.out⟩
       case round =>
        obtain ⟨q,rfl,hq,aA,au⟩:=hrel;by_cases bg:q<c.size
        · have G:=pc6 c q bg;rw [aq.out] at G;have HC:=ah G;have aT:c[q].toNat<256:=c[q].toNat_lt;obtain ⟨B,aP⟩:=az (c[q].toNat / 16);obtain ⟨H,am⟩:=az (c[q].toNat % 16);have v0:(c[q].toNat:Int) / 16=(B:Int):=by omega
          have v1:Go.bits .and .u8 (c[q].toNat:Int) 15=(H:Int):=by rw [am];exact ptu _ aT
          obtain ⟨F,aN⟩:=az (B+1);obtain ⟨E,aK⟩:=az (H+1);have bm:IntKind.u8.wrap ((B:Int)+1)=(F:Int):=by rw [IntWalk.u8_in _ (by omega)];omega
          have bk:IntKind.u8.wrap ((H:Int)+1)=(E:Int):=by rw [IntWalk.u8_in _ (by omega)];omega
          have a0:B<=F:=by omega
          have a1:H<=E:=by omega
          have b0:F<=16:=by omega
          have b1:E<=16:=by omega
          have i2:(0:Int)<=(q:Int):=by omega
          have i3:(q:Int)<(c.size:Int):=by omega
          have v:=ah (xf aP (xf am (xf aN aK)));clear G aP am aN aK;go_upto_region 19 with (fail)
          have av:Uq wr wr.drew:=uR.drew;have bo:(F:Int)<=16:=by omega
          have bn:(E:Int)<=16:=by omega
          have a7:=paF aq.out;have aF:Hid (x.length<=1000000):=by show _<=_;omega
          have a3:=ah (pqc (x:=x) (q:=q) HC.out);clear a7;refine @_root_.id ((∀ W:World,Hid (BtK f b W (dtxB d j ++ 32 :: hexL (x.take q) ++ bs ((⟨#[48,49,50,51,52,53,54,55,56,57,97,98,99,100,101,102]⟩:ByteArray).extract B F)))->Hid (WrAt W a b)->(?pj3:World->Prop) W)->_) (fun hJ=>?mj3) ?jj3
          case mj3 =>
           refine bG (S:=fun wp=>wp.cell? ⟨a,0,none⟩=some (.func (.func 128) #[.pointer (some ⟨b,0,none⟩)] #[])) ((au.out.upd av).cell) fun T=>?_;refine tkS [0,1,2,3,4,5,6,7,8,9,10] T ?_;refine tk1 11 fun K hK=>?_;go_simp;refine ((aA.out.upd av).write _ (by have:=y.out;have:=aF.out;have e:=xU List.length (hexX (x:=B) (z:=F) (by have:=v.out;omega) (by have:=v.out;omega));rw [pac] at e;simp only [xr,xF,paO,xQ] at e ⊢;have:=Nat.min_le_right q x.length;(try simp only [zG] at e ⊢);omega)).mono ?_;rintro e wv ⟨rfl,hb1,o⟩;have ab:=ah hb1;have U:=ah ((au.out.upd av).kept D.out o);clear hb1 o;go_wp2_with fail;refine tkK hK (U.out.cell) fun T=>?_;clear hK K;refine tkD ?_;exact hJ wv ab U
          intro wA ab U
          skip
          rw [hexX (x:=B) (z:=F) (by have:=v.out;omega) (by have:=v.out;omega)] at ab;go_upto_region 20 with (fail)
          have aB:Uq wA wA.drew:=uR.drew;refine @_root_.id ((∀ W:World,Hid (BtK f b W (dtxB d j ++ 32 :: hexL (x.take q) ++ [hexD B] ++ bs ((⟨#[48,49,50,51,52,53,54,55,56,57,97,98,99,100,101,102]⟩:ByteArray).extract H E)))->Hid (WrAt W a b)->(?pj15:World->Prop) W)->_) (fun hJ=>?mj15) ?jj15
          case mj15 =>
           refine bG (S:=fun wp=>wp.cell? ⟨a,0,none⟩=some (.func (.func 128) #[.pointer (some ⟨b,0,none⟩)] #[])) ((U.out.upd aB).cell) fun T=>?_;refine tkS [0,1,2,3,4,5,6,7,8,9,10] T ?_;refine tk1 11 fun K hK=>?_;go_simp;refine ((ab.out.upd aB).write _ (by have:=y.out;have:=aF.out;have e:=xU List.length (hexX (x:=H) (z:=E) (by have:=v.out;omega) (by have:=v.out;omega));rw [pac] at e;simp only [xr,xF,paO,xQ] at e ⊢;have:=Nat.min_le_right q x.length;(try simp only [zG] at e ⊢);omega)).mono ?_;rintro e wv ⟨rfl,hb1,o⟩;have ac:=ah hb1;have ad:=ah ((U.out.upd aB).kept D.out o);clear hb1 o;go_wp2_with fail;refine tkK hK (ad.out.cell) fun T=>?_;clear hK K;refine tkD ?_;exact hJ wv ac ad
          intro wB ac ad
          skip
          rw [hexX (x:=H) (z:=E) (by have:=v.out;omega) (by have:=v.out;omega)] at ac;have ay:Hid (BtK f b wB (dtxB d j ++ 32 :: hexL (x.take (q+1)))):=by
           show BtK _ _ _ _;rw [a3.out];have h:=ac.out;obtain ⟨h0,h1,_,_⟩:=v.out;rw [h0,h1] at h;simpa using h
          go_wp2_with fail;exact ⟨⟨q+1,by go_num,by omega,ay.out,ad.out⟩,by first | (simp [intOf];done) | (simp [intOf];omega)⟩
        · obtain rfl:q=c.size:=by omega
          have ay:Hid (BtK f b wr (dtxB d (j+1))):=by
           show BtK _ _ _ _;rw [C.out];have h:=aA.out;rw [xy (by rw [paF aq.out];exact xj _)] at h;exact h
          clear aA r aD aH;go_wp2_with fail;exact ⟨⟨j+1,by go_num,by omega,ay.out,au.out⟩,by first | (simp [intOf];done) | (simp [intOf];omega)⟩
     · obtain rfl:j=n:=by omega
       have HF:Hid (BtK f b wr d.text):=by
        have h:=r.out;rw [HN.out,prw] at h;exact h
       clear r;go_wp2_with fail;refine (HF.out.text (by rw [DlI.text_eq];simp [pe8])).mono ?_;rintro e w6 ⟨rfl,hb1⟩;have U6:=ah (U0.out.trans hb1.up);clear hb1;go_wp2;go_ret;exact ⟨⟨d.text.toArray⟩,pcM _,by show d.text.length<=_;exact xj _,rfl,U6.out⟩
theorem phG:∀ b,pbt (hexL b)=b
 | []=>rfl
 | b :: r=>by
  have d:b.toNat<256:=b.toNat_lt
  obtain ⟨c,_⟩:=piY (pcO (b.toNat / 16) (by omega))
  obtain ⟨a,_⟩:=piY (pcO (b.toNat % 16) (by omega))
  rw [hexL,pbt,phG r,c,a]
  congr 1
  apply zQ.1
  rw [yn]
  omega
theorem pny {t:List UInt8} {m N c} (d:t[2 * m]? =some c) (h:m<N):(pbt (t.take (2 * m)) ++ List.replicate (N - m) 0).set m (dv c)=pbt (t.take (2 * m+1)) ++ List.replicate (N - (m+1)) 0:=by
 have g:=(xe.1 d).1;have a:(t.take (2 * m)).length=2 * m:=by rw [xQ];omega
 have e:t.take (2 * m+1)=t.take (2 * m) ++ [c]:=by rw [xN,d];rfl
 have f:(pbt (t.take (2 * m))).length=m:=by rw [pby,a];omega
 rw [e,pcq _ _ (by rw [a];omega),ya _ _ (by omega),f,yC,show N - m=(N - (m+1))+1 by omega,yL,xX,xG];rfl
theorem pqd {t:List UInt8} {m N a c} (j:t[2 * m]? =some a) (f:t[2 * m+1]? =some c):(pbt (t.take (2 * m+1)) ++ List.replicate (N - (m+1)) 0)[m]? =some (dv a)/\(pbt (t.take (2 * m+1)) ++ List.replicate (N - (m+1)) 0).set m (UInt8.ofNat (16 * (dv a).toNat+(dv c).toNat))=pbt (t.take (2 * m+1+1)) ++ List.replicate (N - (m+1)) 0:=by
 have k:=(xe.1 f).1;have d:(t.take (2 * m)).length=2 * m:=by rw [xQ];omega
 have e:t.take (2 * m+1)=t.take (2 * m) ++ [a]:=by rw [xN,j];rfl
 have h:t.take (2 * m+1+1)=t.take (2 * m) ++ [a,c]:=by rw [xN,f,e];simp
 have g:(pbt (t.take (2 * m))).length=m:=by rw [pby,d];omega
 rw [h,e,pcq _ _ (by rw [d];omega),pcq _ _ (by rw [d];omega),xG,xG];refine ⟨?_,?_⟩
 · rw [xC (by omega),g,yC];rfl
 · rw [ya _ _ (by omega),g,yC];rfl
def puB (l:List UInt8) (w:World) (e:Ending) (w':World):Prop:=∃ (r:ByteArray) (ok:Bool),Hid (∀ b,l=hexL b->ok=true/\bs r=b)/\r.size<=l.length/\e=.returned (.tuple #[.string r,.bool ok])/\Upd [] [] w w'
theorem ptX {l c} (d:c∈l) (h:digH c=none):∀ b,l≠hexL b:=by
 intro b e;obtain ⟨n,a⟩:=pec b c (by rw [<-e];exact d);rw [h] at a
 cases a
theorem pir (s) (hs:s.size<=1000000000) (w):Calls prog 263 #[.string s] w (puB (bs s) w):=by
 obtain ⟨N,hN⟩:=az (s.size / 2);have R:=php w N (by omega);obtain ⟨x,E⟩:=ae (w.heap.size);obtain ⟨K,B⟩:=ae (w.alloc (.cells (byteVals (List.replicate N 0)).toArray 5));have R0:Hid (AB 5 K x (List.replicate N 0)):=by
  show K.heap[x]? =_;rw [<-E,<-B];exact xi _ _
 have U0:Hid (Uq w K):=by rw [<-B];exact uR.alloc _
 have ai:(s.size:Int).tdiv 2=(N:Int):=by rw [xP (by omega)];omega
 have aj:(s.size:Int) / 2=(N:Int):=by omega
 have ak:N<=500000000:=by omega
 have q:Hid (2 * N<=s.size/\s.size<=2 * N+1):=by constructor <;> omega
 have HG:Hid (w.heap.size<=x):=xJ E;rw [B,E] at R;clear hN hs;go_in;go_wp2_with fail;clear R;go_loopw [5,6,14] (fun _ _ i wr=>∃ k:Nat,i=.int .i64 (k:Int)/\k<=2 * N/\Hid (AB 5 wr x (pbt ((bs s).take k) ++ List.replicate (N - (k+1) / 2) 0))/\Hid (pf8 ((bs s).take k))/\Hid (Uq w wr)) (fun _ _ i _=>2 * N - (intOf i).toNat)
 case atStart=>exact ⟨0,rfl,xu _,R0,fun c h=>by simp at h,U0.out⟩
 case round =>
  obtain ⟨k,rfl,hk,f,HD,t⟩:=hrel;by_cases ad:k<2 * N
  · have ag:k<s.size:=by have:=q.out;omega
    have hc:=pc6 s k ag;have v:=ah hc;have i0:(0:Int)<=(k:Int):=by omega
    have i1:(k:Int)<(s.size:Int):=by omega
    have l1:(k:Int)<2 * (N:Int):=by omega
    clear hc
    cases hd:digH s[k] with
    | none =>
     have ab:=ah (ptX (xt v.out) hd);have u:=plS hd;clear hd;go_wp2_with fail;refine (u wr).mono ?_;rintro e Y ⟨rfl,rfl⟩;go_wp2;go_ret2;exact ⟨⟨#[]⟩,false,fun b e=>absurd e (ab.out b),xu _,rfl,t.out⟩
    | some n =>
     obtain ⟨U,Q⟩:=piY hd;have u:=plR hd;have T:Hid (pf8 ((bs s).take (k+1))):=by
      intro c S;rw [xN,v.out] at S;rcases yq.1 S with h | h
      · exact HD.out c h
      · rw [show c=s[k] by simpa using h];exact ⟨n,hd⟩
     have W:=ah U;clear hd U;by_cases g:k % 2=0
     · obtain ⟨m,rfl⟩:∃ m,k=2 * m:=⟨k / 2,by omega⟩
       have a:=(f.out.set m (dv s[2 * m])).upd (Upd.refl [] _);rw [show (2 * m+1) / 2=m by omega,pny v.out (by omega)] at a;have P:=f.out.cell (j:=m) (b:=0) (by
        have hl:(pbt ((bs s).take (2 * m))).length=m:=by rw [pby,xQ,pac];omega
        rw [xC (by omega),hl,yC,zB,xH (by omega)])
       have af:=f.out.frozen m;have H:((2 * m:Nat):Int).tdiv 2=(m:Int):=by rw [xP (by omega)];omega
       have e2:((2 * m:Nat):Int) / 2=(m:Int):=by omega
       have b0:(0:Int)<=(m:Int):=by omega
       have b1:(m:Int)<(N:Int):=by omega
       rw [show N - (m+1)=N - (2 * m+1+1) / 2 by omega] at a;have G:=ah a;clear a g;go_wp2_with fail;refine (u wr).mono ?_;rintro e Y ⟨rfl,rfl⟩;have vb:Go.bits .or .u8 0 (n:Int)=((dv s[2 * m]).toNat:Int):=by
        have h:=pfC 0 (by omega) n Q;rw [W.out];simpa using h
       go_wp2_with fail;exact ⟨⟨2 * m+1,by go_num,by omega,G.out,T.out,t.out.setNew (p:=⟨_,_,none⟩) HG.out _⟩,by simp [intOf];omega⟩
     · obtain ⟨m,rfl⟩:∃ m,k=2 * m+1:=⟨k / 2,by omega⟩
       have D:=pc6 s (2 * m) (by omega);obtain ⟨f1,f2⟩:=pqd (N:=N) D v.out;obtain ⟨o,Z⟩:∃ o,digH (s[2 * m]'(by omega))=some o:=HD.out (s[2 * m]'(by omega)) (by
        refine xt (i:=2 * m) ?_;rw [xR (by omega)];exact D)
       obtain ⟨F,aa⟩:=piY Z;have d:=f.out;rw [show (2 * m+1+1) / 2=m+1 by omega] at d;have P:=d.cell f1;rw [F] at P;have a:=d.set m (UInt8.ofNat (16 * (dv (s[2 * m]'(by omega))).toNat+(dv s[2 * m+1]).toNat));rw [f2,F,W.out] at a;have af:=f.out.frozen m;have H:((2 * m+1:Nat):Int).tdiv 2=(m:Int):=by rw [xP (by omega)];omega
       have e2:((2 * m+1:Nat):Int) / 2=(m:Int):=by omega
       have e3:(2 * (m:Int)+1) / 2=(m:Int):=by omega
       have b0:(0:Int)<=(m:Int):=by omega
       have b1:(m:Int)<(N:Int):=by omega
       rw [show N - (m+1)=N - (2 * m+1+1+1) / 2 by omega] at a;have G:=ah a;clear a d g f1 f2 D Z F f;go_wp2_with fail;refine (u wr).mono ?_;rintro e Y ⟨rfl,rfl⟩;have vb:Go.bits .or .u8 ((o:Int) * 16) (n:Int)=((UInt8.ofNat (16 * o+n)).toNat:Int):=by
        have h:=pfC o aa n Q;rw [show ((16 * o:Nat):Int)=(o:Int) * 16 by omega] at h;rw [h,yn,xV (by omega)]
       go_wp2_with fail;exact ⟨⟨2 * m+1+1,by go_num,by omega,G.out,T.out,t.out.setNew (p:=⟨_,_,none⟩) HG.out _⟩,by simp [intOf];omega⟩
  · obtain rfl:k=2 * N:=by omega
    have d:=f.out;rw [show N - (2 * N+1) / 2=0 by omega,zg,yl] at d;obtain ⟨r,y⟩:=ae (pbt ((bs s).take (2 * N)));rw [y] at d;have A:r.length=N:=by rw [<-y,pby,xQ,pac];have:=q.out;omega
    obtain ⟨z,O⟩:∃ z:ByteArray,bs z=r:=⟨⟨r.toArray⟩,pcM _⟩
    have ac:=d.text z O N;rw [A] at ac;have HR:=ah y;have J:=ah O;have X:=ah A;clear y O A d f ad hk;by_cases g:s.size % 2=0
    · have H:(s.size:Int).tmod 2=0:=by rw [xO (by omega)];omega
      have C:=ah g;clear g;go_wp2;go_ret2;refine ⟨z,true,fun b M=>⟨rfl,?_⟩,?_,rfl,t.out⟩
      · rw [J.out,<-HR.out,xy (by rw [pac];have:=q.out;have:=C.out;omega),M,phG]
      · rw [<-pac,J.out,X.out,pac];have:=q.out;omega
    · have H:(s.size:Int).tmod 2=1:=by rw [xO (by omega)];omega
      have C:=ah g;clear g;go_wp2;go_ret2;refine ⟨z,false,fun b M=>?_,?_,rfl,t.out⟩
      · have h:=xU List.length M;rw [pac,paO] at h;exact absurd (show s.size % 2=0 by omega) C.out
      · rw [<-pac,J.out,X.out,pac];have:=q.out;omega
end Go.Proofs.YtkhjolbbpdaplaaGreatDoor
