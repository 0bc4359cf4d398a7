/- sortesref07.Check and what follows. -/
import Derived.Test.YtkhjolbbpdaplaaGreatDoorHAY
namespace Go.Proofs.YtkhjolbbpdaplaaGreatDoor
set_option maxHeartbeats 4000000
open Go.RowKit Go.Proofs.Tryz
set_option maxRecDepth 100000
abbrev zP:=@Eq.trans
def DsRd (w:World) (v:Value) (ds:List Dl):Prop:=∃ ao cap,v=.slice ao ds.length cap/\ds.length<=cap/\cap<=9223372036854775807/\∀ (i:Nat) d,ds[i]? =some d->∃ g c b,ao=some ⟨g,0,none⟩/\g<w.heap.size/\w.cell? ⟨g,i * 3,none⟩=some c/\w.cell? ⟨g,i * 3+1,none⟩=some (.int .i64 (d.point:Int))/\w.cell? ⟨g,i * 3+2,none⟩=some b/\Sl w c d.coms/\RdS w b d.boxes
theorem DsRd.upd {w w' v ds} (h:DsRd w v ds) (u:Uq w w'):DsRd w' v ds:=by
 obtain ⟨k,f,e,h1,r,m⟩:=h;refine ⟨k,f,e,h1,r,fun i d j=>?_⟩;obtain ⟨g,c,b,e,a,x,n,o,q,t⟩:=m i d j;exact ⟨g,c,b,e,xA a u.size,(u.cell (p:=⟨g,_,none⟩) a (by simp)).trans x,(u.cell (p:=⟨g,_,none⟩) a (by simp)).trans n,(u.cell (p:=⟨g,_,none⟩) a (by simp)).trans o,q.upd u,t.upd u⟩
theorem dl_load {c b p g o W} (h0:W.cell? ⟨g,o,none⟩=some c) (h1:W.cell? ⟨g,o+1,none⟩=some (.int .i64 p)) (d:W.cell? ⟨g,o+2,none⟩=some b):(Instr.loadAt 142 (.pointer (some ⟨g,o,none⟩))).run prog W=.ok (.agg (dlC c p b)) W :=
 xL W g o 142 [c,.int .i64 p,b] _ (fun j v a=>by
  match j,a with
  | 0,a=>simp at a;subst a;exact h0
  | 1,a=>simp at a;subst a;exact h1
  | 2,a=>simp at a;subst a;exact d) underlying142 rfl (by show _=some 3;kernel_rfl)
def phD (d:Dl) (n:Nat):Prop:=(∀ x∈d.coms,memN x)/\memN d.point/\1<=d.coms.length/\d.coms.length<=n/\d.boxes.length=n/\∀ b∈d.boxes,b.length=16
theorem pnq (c b d n w) (W:phD d n) (hn:n<=60) (v:Sl w c d.coms) (t:RdS w b d.boxes):Calls prog 192 #[.agg (dlC c (d.point:Int) b),.int .i64 (n:Int)] w (Mk (.bool true) w):=by
 obtain ⟨H,u,U,d4,p,M⟩:=W;obtain ⟨g,hg⟩:=ae (w.heap.size);obtain ⟨a,j⟩:=ae (w.alloc (.cells (dlC c (d.point:Int) b) 142));have f:=aW hg j;have h:=aU j;have G:=xa _ g 0 _ _ _ f;have q:=xa _ g 1 _ _ _ f;have K:=xa _ g 2 _ _ _ f;have E:=u.2.1;have A:=ah (pcX (d.point:Int) true a (by unfold Pn at E;unfold pab;omega) ((pbG d.point).2 u));have T:=ah (pfn c d.coms a (v.upd h) H (by omega));have S:=ah (t.upd h);have R:=ah M;obtain ⟨m,J⟩:=az (d.coms.length);obtain ⟨Z,cc,z,an,_⟩:=v.form;obtain ⟨X,bc,B,ag,_,_⟩:=t.form;rw [<-J] at U d4 z;have O:=ah p;rw [p] at B;have U0:=ah h;subst z;subst B;obtain ⟨P,F⟩:=az ((d.point:Int));have ac:¬ (n:Int)<(m:Int):=by omega
 have ak:¬ n<m:=by omega
 rw [<-F] at q A j ⊢;have ai:a.cell? ⟨g,0,none⟩=some (.slice Z m cc):=G;have am:a.cell? ⟨g,1,none⟩=some (.int .i64 P):=q;have af:a.cell? ⟨g,2,none⟩=some (.slice X n bc):=K;clear v t f h H u p M J E F G q K;go_in;go_wp2_with fail;refine A.out.mono ?_;rintro e w' ⟨rfl,rfl⟩;go_wp2_with fail;refine T.out.mono ?_;rintro e w' ⟨rfl,rfl⟩;go_wp2;go_loopw [4,7] (fun _ i wr=>∃ k:Nat,i=.int .i64 (k:Int)/\k<=n/\wr=a) (fun _ i _=>n - (intOf i).toNat)
 case atStart=>exact ⟨0,rfl,xu _,(by first | trivial | rfl)⟩
 case round =>
  obtain ⟨k,rfl,hk,rfl⟩:=hrel;by_cases N:k<n
  · obtain ⟨x,o⟩:∃ x,d.boxes[k]? =some x:=⟨_,xd (by rw [O.out];exact N)⟩
    obtain ⟨aa,al,Q,_,_,C⟩:=S.out.form;obtain ⟨Y,eg,ad,y⟩:=C k x o;injection Q with eb1 eb2 eb3;subst eb1;subst eg;have D:=R.out x (xt o);obtain ⟨s,r⟩:∃ s:ByteArray,s=⟨x.toArray⟩:=⟨_,rfl⟩
    have aj:s.size=16:=by rw [r];exact D
    have ab:wr.cell? ⟨Y,k,none⟩=some (.string s):=by rw [r];exact y
    have i0:(0:Int)<=(k:Int):=by omega
    have i1:(k:Int)<(n:Int):=by omega
    clear o C y r D eb3;go_wp2_with fail;exact ⟨⟨k+1,by go_num,by omega,(by first | trivial | rfl)⟩,(by first | (simp [intOf];done) | (simp [intOf];omega))⟩
  · go_wp2;go_ret;exact ⟨rfl,U0.out⟩
theorem ppR (v ds n w) (j:DsRd w v ds) (Y:∀ d∈ds,phD d n/\d.coms.length=needN n) (h1:1<=n) (h6:n<=60) (hl:1<=ds.length) (ab:ds.length<=1000):Calls prog 139 #[v,.int .i64 (n:Int)] w (Mk (.bool true) w):=by
 obtain ⟨J,E,rfl,M,c2,a⟩:=j;have j:DsRd w (.slice J ds.length E) ds:=⟨J,E,rfl,M,c2,a⟩
 have U:=ah j;have HD:=ah Y;obtain ⟨m,h⟩:=az (ds.length);have HM:=ah h;rw [<-h] at M hl ab U;rw [<-h];clear a j Y h;go_in;go_wp2;go_loopw [4,5,6] (fun _ i _ wr=>∃ k:Nat,i=.int .i64 (k:Int)/\k<=m/\Hid (Uq w wr)) (fun _ i _ _=>m - (intOf i).toNat)
 case atStart=>exact ⟨0,rfl,xu _,Upd.refl _ _⟩
 case round =>
  obtain ⟨k,rfl,hk,f⟩:=hrel;by_cases aa:k<m
  · obtain ⟨d,y⟩:∃ d,ds[k]? =some d:=⟨_,xd (by rw [<-HM.out];exact aa)⟩
    have t:=HD.out d (xt y);obtain ⟨ad,af,ev,_,_,a⟩:=U.out.upd f.out;obtain ⟨g,c,b,eg,Q,A,O,X,C,T⟩:=a k d y;injection ev with e1 e2 e3;subst e1;subst eg;have x:=ah (dl_load A O X);have z:=ah (pnq c b d n wr t.1 h6 C T);obtain ⟨N,P,r,_,_⟩:=C.form;obtain ⟨q,hq⟩:=az (needN n);rw [t.2,<-hq] at r;have R:Hid (∀ W,Uq wr W->W.cell? ⟨g,k * 3,none⟩=some (.slice N q P)):=fun W u=>(u.cell (p:=⟨g,k * 3,none⟩) Q (by simp)).trans (by rw [A,r]);have Z:Hid (∀ W,Calls prog 58 #[n] W (Ret (.int .i64 (q:Int)) W)):=fun W=>by rw [hq];exact peB n W h1 (by omega)
    obtain ⟨DV,G⟩:=az (dlC c (d.point:Int) b);rw [<-G] at x z;have i0:(0:Int)<=(k:Int):=by omega
    have i1:(k:Int)<(m:Int):=by omega
    clear y t a Q A O X C T r hq G e2 e3;go_wp2_with (refine bA x ?_)
    refine z.out.mono ?_;rintro e B ⟨rfl,D⟩;have ac:=ah (f.out.trans D);have H:Hid (∀ W,Uq B W->W.cell? ⟨g,k * 3,none⟩=some (.slice N q P)):=fun W u=>R.out W (D.trans u);have F:Uq B B.drew:=uR.drew;clear D z x R f;go_upto_region 5 with (fail)
    refine bH H F fun o=>?_;refine tkS [0,1,2,3,4,5,6,7,8,9] o ?_;refine tk1 10 fun K S=>?_;rw [xH (by rfl)];go_simp;refine (Z.out _).mono ?_;rintro e aj ⟨rfl,rfl⟩;go_wp2_with fail;refine tkK S (H.out _ F) fun o=>?_;clear S K;refine tkS [11,12] o ?_;refine tkD ?_;go_wp2_with fail;exact ⟨⟨k+1,by go_num,by omega,ac.out.drew⟩,(by first | (simp [intOf];done) | (simp [intOf];omega))⟩
  · have ag:(0:Int)<(m:Int):=by omega
    have ai:0<m:=by omega
    go_wp2;go_ret;exact ⟨by simp,f.out⟩
def mixN (ds:List Dl) (j:Nat):Nat:=ds.foldl (fun c d=>c * pP (d.coms.getD j 0) 1 % Pn) 1
def mixL (ds:List Dl) (need:Nat):List Nat:=(List.range need).map (mixN ds)
theorem ppS (ds k):mixL ds (k+1)=mixL ds k ++ [mixN ds k]:=by simp [mixL,List.range_succ]
theorem pii (ds k):(mixL ds k).length=k:=by simp [mixL]
theorem ppT {ds:List Dl} {j k d} (h:ds[k]? =some d):mixN (ds.take (k+1)) j=mixN (ds.take k) j * pP (d.coms.getD j 0) 1 % Pn:=by
 unfold mixN;rw [xN,h];simp
theorem pnr (v pv ds f w) (J:DsRd w v ds) (T:Sl w pv (List.replicate ds.length 1)) (hd:∀ d∈ds,d.coms.length=f/\∀ x∈d.coms,x<Pn) (hn:f<=1000) (ar:ds.length<=1000) :
 Calls prog 141 #[v,pv,.int .i64 (f:Int)] w (fun e w'=>∃ u,Hid (∀ W,paC w w' W->Sl W u (mixL ds f))/\e=.returned u/\Uq w w'):=by
 obtain ⟨ao,ab,rfl,c1,c2,o⟩:=J;have J:DsRd w (.slice ao ds.length ab) ds:=⟨ao,ab,rfl,c1,c2,o⟩
 obtain ⟨pa,pc,ad,p1,p2⟩:=T.form;have af:(List.replicate ds.length 1:List Nat).length=ds.length:=by simp
 rw [af] at ad p1;have HV:=ah J;have HD:=ah hd;subst ad;obtain ⟨m,H⟩:=az (ds.length);have HM:=ah H;have HP:=ah T;rw [<-H] at c1 ar HV HP p1;rw [<-H];clear o J hd H T af;go_in;go_wp2;go_loopw [7,8,9,10] (fun u j _ _ wr=>∃ k:Nat,j=.int .i64 (k:Int)/\k<=f/\Hid (wr.ownsRow 0 3 1 u k (pah (mixL ds k)))/\Hid (Uq w wr)/\Hid (∀ x,x∈foot u->w.heap.size<=x)) (fun _ j _ _ _=>f - (intOf j).toNat)
 case atStart=>exact ⟨0,rfl,xu _,x9 _ _ _ _,Upd.refl _ _,(fun x n=>by cases n)⟩
 case round =>
  obtain ⟨j,rfl,hj,F,Z,HF⟩:=hrel;by_cases ay:j<f
  · have j1:(j:Int)<(f:Int):=by omega
    obtain ⟨w1,Q⟩:=az (wr);have S:=ah Q;go_wp2;go_loopw [9,10] (fun c i av=>∃ k r:Nat,i=.int .i64 (k:Int)/\k<=m/\c=.int .i64 (r:Int)/\r<2305843009213691579/\Hid (r=mixN (ds.take k) j)/\Hid (Uq w1 av)) (fun _ i _=>m - (intOf i).toNat)
    case atStart=>exact ⟨0,1,rfl,xu _,rfl,by omega,rfl,(by show Uq w1 _;rw [Q];exact Upd.refl _ _)⟩
    case round =>
     obtain ⟨k,r,rfl,hk,rfl,hr,al,C⟩:=hrel;have t:Hid (Uq w wr):=by
      have h:=Z.out;rw [<-S.out] at h;exact h.trans C.out
     by_cases ac:k<m
     · obtain ⟨d,E⟩:∃ d,ds[k]? =some d:=⟨_,xd (by rw [<-HM.out];exact ac)⟩
       have D:=HD.out d (xt E);obtain ⟨aB,aC,ev,_,_,o⟩:=HV.out.upd t.out;obtain ⟨g,c,b,eg,hg,U,q1,q2,Y,hb⟩:=o k d E;injection ev with e1 e2 e3;subst e1;subst eg;obtain ⟨a,G⟩:∃ a,d.coms[j]? =some a:=⟨_,xd (by rw [D.1];exact ay)⟩
       obtain ⟨ca,cc,rfl,k1,k2⟩:=Y.form;obtain ⟨cb,rfl,N⟩:=Y.get G;rw [D.1] at U k1;obtain ⟨pb,rfl,O⟩:=(HP.out.upd t.out).get (k:=k) (d:=1) (by rw [zB];simp [ac]);have ak:=D.2 a (xt G);have ap:a<=9223372036854775807:=by unfold Pn at ak;omega
       have an:Hid (mixN (ds.take (k+1)) j=mixN (ds.take k) j * pP a 1 % Pn):=by
        show _=_;rw [ppT E,xx,G];rfl
       have am:cb<wr.heap.size:=x6 _ _ N;have ag:pb<wr.heap.size:=x6 _ _ O;have X:Hid (∀ W,Uq wr W->W.cell? ⟨g,k * 3,none⟩=some (.slice (some ⟨cb,0,none⟩) f cc)/\W.cell? ⟨cb,j,none⟩=some (.int .i64 (a:Int))/\W.cell? ⟨pb,k,none⟩=some (.int .i64 1)):=fun W u =>
        ⟨(u.cell (p:=⟨g,k * 3,none⟩) hg (by simp)).trans U,(u.cell (p:=⟨cb,j,none⟩) am (by simp)).trans N,(u.cell (p:=⟨pb,k,none⟩) ag (by simp)).trans O⟩
       have R:Uq wr wr.drew:=uR.drew;have i0:(0:Int)<=(k:Int):=by omega
       have i1:(k:Int)<(m:Int):=by omega
       have j0:(0:Int)<=(j:Int):=by omega
       have aq:r<=9223372036854775807:=by omega
       clear E D o hg U q1 q2 Y hb N O ak G e2 e3 am ag;go_upto_region 9 with (fail)
       refine bH X R fun B=>?_;refine tkS [0,1,2,3,4,5,6,7,8,9,10,11,12] B ?_;refine tk1 13 fun K A=>?_;go_simp;refine (pdm a 1 _ _ ap (by omega) rfl).mono ?_;rintro e aE ⟨y,HY,hy,rfl,rfl⟩;go_wp2_with fail;refine tkK A (X.out _ R) fun B=>?_;clear A K;refine tk1 14 fun K A=>?_;go_simp;refine (ppr r y _ aq (by omega)).mono ?_;rintro e aD ⟨z,HZ,hz,rfl,rfl⟩;go_wp2_with fail;refine tkK A (X.out _ R) fun B=>?_;clear A K;refine tkY 15 B ?_;refine tkD ?_;go_wp2_with fail;exact ⟨⟨k+1,z,by go_num,by omega,by go_num,hz,(by show _=_;rw [an.out,HZ.out,HY.out,al.out];rfl),C.out.drew⟩,(by first | (simp [intOf];done) | (simp [intOf];omega))⟩
     · obtain rfl:k=m:=by omega
       have aj:r=mixN ds j:=by rw [al.out,HM.out,yb]
       have ai:Hid (wr.ownsRow 0 3 1 u7 j (pah (mixL ds j))):=by
        have h:=F.out;rw [<-S.out] at h;exact paj h (fun x n=>C.out.block x (pag h x n) (by simp))
       obtain ⟨u',w',aa,M,P⟩:=paZ wr u7 (mixL ds j) j r (pii ds j) ai.out (by omega);rw [aj,<-ppS] at M;have aA:=ah aa;have aw:=ah M;have ax:=ah (t.out.past2 P HF.out);have au:Hid (∀ x,x∈foot u'->w.heap.size<=x):=fun x n=>by
        rcases P.new x n with q | q
        · exact HF.out x q
        · have:=t.out.size;omega
       clear aa M P aj ai F Z S Q C t;go_wp2_with (refine bN aA ?_)
       exact ⟨⟨j+1,by go_num,by omega,aw.out,ax.out,au.out⟩,(by first | (simp [intOf];done) | (simp [intOf];omega))⟩
  · obtain rfl:j=f:=by omega
    have HS:Hid (∀ W,paC w wr W->Sl W u7 (mixL ds j)):=fun W hW=>Sl.of_digs (pii ds j) (paj F.out (fun x n=>hW x (HF.out x n) (pag F.out x n)));go_wp2;go_ret;exact ⟨_,HS,rfl,Z.out⟩
theorem pdE {w w' e s n v a} (h:w.ownsRow 0 e s v n a) (u:Uq w w'):w'.ownsRow 0 e s v n a:=paj h (fun x c=>u.block x (pag h x c) (by simp))
theorem pgB {ws}:(pa4 ws).length=ws.sum:=by
 rw [<-pd0,pdZ ws ws.length 0 (xj _),yb];rfl
theorem pdh {ws}:∀ x∈pa4 ws,memN x:=by
 intro x a;simp only [pa4,List.mem_flatMap,uT] at a;obtain ⟨i,_,_,rfl⟩:=a;exact pg8 _
theorem pjH (v ws w) (c:WsOk ws) (h:pbN w v ws) :
 Calls prog 133 #[v] w (fun e w'=>∃ u,Hid (Sl w' u (pa4 ws))/\e=.returned u/\Uq w w'):=by
 refine (pnn v ws w c h).mono ?_;rintro e w' ⟨u,d,rfl,a⟩;exact ⟨u,Sl.of_row d.out,rfl,a.out.mono (fun _ h=>h) (fun _ h=>absurd h (by simp))⟩
theorem prm (a) (c:Nat) (w) (j:a.size<=1000000) (g:c<=1000) :
 Calls prog 61 #[.string a,c] w (fun e w'=>∃ u,Hid (Sl w' u (pds (bs a) c))/\e=.returned u/\Uq w w'):=by
 refine (pjE a c w j g).mono ?_;rintro e w' ⟨u,d,rfl,f⟩;exact ⟨u,Sl.of_digs (pcZ _ _) d.out,rfl,f.out.mono (fun _ h=>h) (fun _ h=>absurd h (by simp))⟩
def sdL (seed:List UInt8) (i:Nat):List UInt8:=seed ++ [32] ++ Lib.itoa ((i+1:Nat):Int)
def dlAt (ws:List Nat) (seed:List UInt8) (i:Nat):Dl:=pei (pds (sdL seed i) (needN ws.sum)) (pa4 ws) (sdL seed i)
def dsN (ws:List Nat) (seed:List UInt8) (k:Nat):List Dl:=(List.range k).map (dlAt ws seed)
theorem pmn (ws a k):dsN ws a (k+1)=dsN ws a k ++ [dlAt ws a k]:=by simp [dsN,List.range_succ]
theorem pe7 (ws a k):(dsN ws a k).length=k:=by simp [dsN]
theorem dlI:∃ i,prog.info? 142=some i/\i.zero=some (.agg dlZ)/\i.size=3/\i.bytes=56:=by
 have h:(prog.info? 142).map (fun i=>(i.zero,i.size,i.bytes))=some (some (.agg dlZ),3,56):=by kernel_rfl
 obtain ⟨i,c,a⟩:=yp.1 h;simp only [yY] at a;exact ⟨i,c,a.1,a.2.1,a.2.2⟩
theorem ppU (wr v ds cb k d c b) (j:cb.length=ds.length) (g:wr.ownsRow 0 142 3 v k (pcH ds cb)) (r:k<=1000000) (h1:c.oneCell'=true) (o:b.oneCell'=true) :
 ∃ a w',(Builtin.append_ #[128,128] 128 #[v,.slice (some ⟨wr.heap.size,0,none⟩) 1 1]).run prog (wr.alloc (.cells (dlC c (d.point:Int) b) 142))=.ok a w'/\w'.ownsRow 0 142 3 a (k+1) (pcH (ds ++ [d]) (cb ++ [(c,b)]))/\Upd (foot v) (foot a) wr w':=by
 obtain ⟨m,p,n,t,q⟩:=dlI;have h:=pdW (P:=prog) 128 142 m _ 3 56 underlying128 p n t q rfl (by omega) (by omega) wr v k (pcH ds cb) [c,.int .i64 (d.point:Int),b] rfl (by intro u f;simp at f;rcases f with e | e | e <;> rw [e] <;> first | exact h1 | exact o | rfl) g r;rw [pgx d (c,b) j];exact h
theorem prn:(Array.range (1 * 3)).map (dlZ[· % dlZ.size]!)=dlZ:=by kernel_rfl
theorem pro (c b p w):(Instr.buildSlice 128 1 #[(0,.agg (dlC c p b))]).run prog w=.ok (.slice (some ⟨w.heap.size,0,none⟩) 1 1) (w.alloc (.cells (dlC c p b) 142)):=by
 obtain ⟨f,d,e,a,_⟩:=dlI;refine run_buildSlice w 128 142 1 _ (dlC c p b) f _ underlying128 d e (by rw [a];omega) (by rw [a];omega) ?_;rw [a];show Instr.fill _ ((Array.range (1 * 3)).map (dlZ[· % dlZ.size]!)) [(0,Value.agg (dlC c p b))]=_;rw [prn];have h:=pbZ (pl:=fun i=>some (i * 3,3)) (i:=0) (off:=0) (n:=3) (v:=.agg (dlC c p b)) (V:=[c,.int .i64 p,b]) (A:=[]) (B:=[.slice none 0 0,.int .i64 0,.slice none 0 0]) (C:=[]) (r:=[]) rfl rfl rfl rfl rfl;rw [zk,yl,zk,yl] at h;exact h.trans rfl
theorem puv {w v F ds cb n} (y:ds.length=n) (h:w.ownsRow 0 142 3 v n (pcH ds cb)) (j:DsIs w F ds cb):DsRd w v ds:=by
 subst y;have B:maxLen<=9223372036854775807:=by unfold maxLen;omega
 by_cases h0:ds.length=0
 · obtain ⟨q,e,rfl,h1,x⟩:=pan h;exact ⟨q,e,rfl,h1,by omega,fun i l a=>by have:=(xe.1 a).1;omega⟩
 · obtain ⟨g,e,C,rfl,c,h1,x,A,r⟩:=pca h (by omega);refine ⟨_,e,rfl,h1,by omega,fun i d a=>?_⟩;have z:=(xe.1 a).1;obtain ⟨p,f⟩:∃ p,cb[i]? =some p:=⟨_,xd (by rw [j.1];omega)⟩
   obtain ⟨t,u,_⟩:=j.2 i d p a f;obtain ⟨k,o,m⟩:=pe4 i d p a f;rw [<-r,xR (by omega)] at k o m;exact ⟨g,p.1,p.2,rfl,paf c,(xa w g (i * 3) _ _ _ c).trans (by simpa using k),(xa w g (i * 3+1) _ _ _ c).trans (by simpa using o),(xa w g (i * 3+2) _ _ _ c).trans (by simpa using m),Sl.of_row t,RdS.of_row u⟩
def pns (B:Nat) (w:World) (u:Value) (ds:List Dl):Prop:=∃ cb:List (Value × Value),w.ownsRow 0 142 3 u ds.length (pcH ds cb)/\DsIs w (foot u ++ List.range B) ds cb/\∀ x,x∈foot u->B<=x
theorem pns.rd {B:Nat} {w:World} {u:Value} {ds:List Dl} (h:pns B w u ds):DsRd w u ds:=by
 obtain ⟨cb,h1,a,_⟩:=h;exact puv rfl h1 a
theorem pbJ (v ws m w) (hw:WsOk ws) (h:pbN w v ws) (hs:m.size<=100000) :
 Calls prog 60 #[v,.string m] w (fun e w'=>∃ u,Hid (∀ W,paC w w' W->pns w.heap.size W u (dsN ws (bs m) ws.length))/\e=.returned u/\Uq w w'):=by
 have aS:=ah h;have a1:=ah hw;obtain ⟨ao,bU,rfl,h1,h2,h3⟩:=h;have HM:=ah h3;obtain ⟨n,Q⟩:=az (ws.length);have HN:=ah Q;have bO:n<=4:=by rw [Q];exact hw.2.1
 obtain ⟨S,hS⟩:=az (ws.sum);have HS:=ah hS;have a8:1<=S/\S<=12:=by rw [hS];exact hw.sum
 rw [<-Q] at h1 aS ⊢;have bW:(ByteArray.mk #[32]).size=1:=rfl;clear Q h3 hw hS;go_in;go_wp2;go_loopw [5,6,7,8,9] (fun u i _ _ _ wr=>∃ (k:Nat) (cb:List (Value × Value)),i=.int .i64 (k:Int)/\k<=n/\Hid (wr.ownsRow 0 142 3 u k (pcH (dsN ws (bs m) k) cb))/\Hid (DsIs wr (foot u ++ List.range w.heap.size) (dsN ws (bs m) k) cb)/\Hid (Uq w wr)/\Hid (∀ x,x∈foot u->w.heap.size<=x)) (fun _ i _ _ _ _=>n - (intOf i).toNat)
 case atStart=>exact ⟨0,[],rfl,xu _,x9 _ _ _ _,DsIs.nil _ _,Upd.refl _ _,(fun x f=>by cases f)⟩
 case round =>
  obtain ⟨k,cb,rfl,hk,HR,HD,HU,HF⟩:=hrel;by_cases bn:k<n
  · obtain ⟨z,hz⟩:∃ z,ws[k]? =some z:=⟨_,xd (by rw [<-HN.out];exact bn)⟩
    obtain ⟨g,rfl,hg,c0,c1,c2⟩:=(HM.out.upd HU.out) k _ (paW hz);dsimp only [memC] at c0 c1 c2;obtain ⟨I,hI⟩:=az (k+1);rw [<-hI] at c0;have HI:=ah hI;have bp:=ah c0;have bT:I<=4:=by omega
    have bZ:(Lib.itoa (I:Int)).length<=20:=itoa_len (I:Int) (by unfold pab;omega);have i0:(0:Int)<=(k:Int):=by omega
    have i1:(k:Int)<(n:Int):=by omega
    clear hz c1 c2 hI;go_wp2_with fail;refine (pct I wr (by omega)).mono ?_;rintro e w2 ⟨y,HY,hy,rfl,hq⟩;have U2:=ah hq;clear hq;go_wp2_with fail;refine (pdX _ ws w2 a1.out (aS.out.upd (HU.out.trans U2.out))).mono ?_;rintro e w3 ⟨rfl,hq⟩;have U3:=ah (U2.out.trans hq);rw [<-HS.out];clear hq U2;go_wp2_with fail;refine (peB S w3 a8.1 (by omega)).mono ?_;rintro e w' ⟨rfl,rfl⟩;obtain ⟨q,hq⟩:=az (needN S);have bP:1<=q/\q<=S:=by rw [hq];exact pdC a8.1
    have HQ:=ah hq;rw [<-hq];clear hq;have aG:(m ++ ⟨#[32]⟩ ++ y).size<=1000000:=by simp [ByteArray.size_append];omega
    obtain ⟨P,aN⟩:=az (m ++ ⟨#[32]⟩ ++ y);have bk:m ++ ⟨#[32]⟩ ++ y=P:=aN.symm;have aI:Hid (bs P=sdL (bs m) k):=by
     show _=_;rw [aN,pae,pae,HY.out];unfold sdL;rw [HI.out];rfl
    rw [<-aN] at aG;clear aN;go_wp2_with fail;refine (prm P q w3 aG (by omega)).mono ?_;rintro e H ⟨pv,bg,rfl,hq⟩;have U4:=ah (U3.out.trans hq);clear hq U3 bk HY hy;have aH:=bg;have aM:=ah (HU.out.trans U4.out);have a2:=ah (pdE HR.out U4.out);have a0:Hid (DsIs H (foot u5 ++ List.range w.heap.size) (dsN ws (bs m) k) cb):=HD.out.keep (fun x f Q=>⟨xA f U4.out.size,Q,U4.out.block x f (by simp)⟩);have bu:=ah ((U4.out.cell (p:=⟨g,k * 3,none⟩) hg (by simp)).trans bp.out);have a5:=ah (aS.out.upd aM.out);have bi:g<H.heap.size:=xA hg U4.out.size;have bJ:=ah bi;have F:Hid (∀ W,Uq H W->W.cell? ⟨g,k * 3,none⟩=some (.int .i64 (I:Int))):=fun W u=>(u.cell (p:=⟨g,k * 3,none⟩) bJ.out (by simp)).trans bu.out;have T:Hid (1<=(pds (bs P) q).length/\(pds (bs P) q).length<=(pa4 ws).length/\(pa4 ws).length<=60):=by
     show _/\_/\_;rw [pcZ,pgB,<-HS.out];omega
    have aK:Hid (pei (pds (bs P) q) (pa4 ws) (bs P)=dlAt ws (bs m) k):=by
     show _=_;unfold dlAt;rw [aI.out,HQ.out,HS.out]
    have bm:¬ 9223372036854775807<m.size+1:=by omega
    have aQ:Uq H H.drew:=uR.drew;clear HU HR HD c0 hg bi U4;go_wp2_with fail;go_upto_region 6 with (fail)
    refine @_root_.id ((∀ (J:ByteArray) (X c b:Value) (o:Array Value) (B:Nat) (W:World),Hid (o=dlC c ((dlAt ws (bs m) k).point:Int) b)->Fr W B o 142->Hid (W.ownsRow 0 3 1 c (dlAt ws (bs m) k).coms.length (pah (dlAt ws (bs m) k).coms))->Hid (paU W b (dlAt ws (bs m) k).boxes)->Hid (∀ x,x∈foot c\/x∈foot b->H.heap.size<=x)->Hid (c.oneCell'=true/\b.oneCell'=true)->Hid (Uq H W)->(?pj1:ByteArray->Value->Value->Value->Array Value->Nat->World->Prop) J X c b o B W)->_) (fun hJ=>?mj1) ?jj1
    case mj1 =>
     refine bH F aQ fun t=>?_;refine tkS [0,1,3,4,5,6,7,8,9] t ?_;refine tkA [2,16] ?_;refine tkC (fun K j=>?_) ?_
     · go_simp;refine (pjH _ ws _ a1.out (a5.out.upd aQ)).mono ?_;rintro e aP ⟨X,aL,rfl,hq⟩;have an:=aQ.trans hq;have ba:=aL;clear hq aL;go_wp2_with fail;refine tkK j (F.out _ an) fun t=>?_;clear j K;refine tkA [10,16] ?_;refine tkC (fun K j=>?_) ?_
       · go_simp;refine (pct I _ (by omega)).mono ?_;rintro e aJ ⟨J,aF,bf,rfl,hq⟩;have U:=an.trans hq;have ar:=ah (ba.out.upd hq);have a9:¬ 9223372036854775807<m.size+1+J.size:=(by omega);clear hq;go_wp2_with fail;refine tkK j (F.out _ U) fun t=>?_;clear j K;refine tkY 11 t ?_;refine tkA [12,16] ?_;refine tkC (fun K j=>?_) ?_
         · go_simp;have af:m ++ ⟨#[32]⟩ ++ J=P:=pcI (by rw [aI.out,pae,pae,aF.out];unfold sdL;rw [<-HI.out];rfl);rw [af];refine (peD pv X _ _ P _ (aH.out.upd U) ar.out (fun c hc=>peA c hc) pdh T.out.1 T.out.2.1 T.out.2.2 aG).mono ?_;rintro e aB ⟨c,b,D,C,R,rfl,hq⟩;have G:=U.trans hq;have aj:=ah (ar.out.upd hq);rw [aK.out] at D C ⊢;have bb:=D;have a7:=C;have ai:Hid (∀ x,x∈foot c\/x∈foot b->H.heap.size<=x):=fun x f=>xB U.size (R.out x f);obtain ⟨o,A⟩:=az (dlC c ((dlAt ws (bs m) k).point:Int) b);have aa:=ah A;rw [<-A];have ak:Fi 142 o:=(by rw [A];exact pbB _ _ _);have aD:Hid (dlZ.size=o.size):=(by show _=_;rw [A];rfl);obtain ⟨a3,aV,N,ax,aA⟩:=pan D.out;obtain ⟨aZ,aT,M,hb1,aC⟩:=pan C.out;have ay:Fo o:=(by show _=_;rw [A,N,M];simp [dlC,Value.oneCell']);have ac:Hid (c.oneCell'=true/\b.oneCell'=true):=(by rw [N,M];exact ⟨rfl,rfl⟩);clear A N ax aA M hb1 aC D C R hq af;go_wp2_with fail;refine tkK j (F.out _ G) fun t=>?_;clear j K;refine tkS [13,14,15] t ?_;refine tk1 16 fun K j=>?_;go_simp;obtain ⟨B,am,ab,r,Z,hq⟩:=paw (aB) (.cells dlZ 142);have Y:am=(aB).alloc (.cells #[.slice none 0 0,.int .i64 0,.slice none 0 0] 142):=r;rw [<-ab,<-Y];have bD:H.heap.size<=B:=(by have:=G.size;omega);have ag:=G.trans hq;have aq:=ah (pdE bb.out hq);have aw:=ah (pdE a7.out hq);have ad:Hid (∀ x,x∈foot c\/x∈foot b->x≠B):=fun x f e=>(by have h1:x<aB.heap.size:=(f.elim (fun h=>pag bb.out x h) (fun h=>pag a7.out x h));omega);clear ab r Y hq;refine tkK j (F.out _ ag) fun t=>?_;clear j K;refine tk1 17 fun K j=>?_;rw [xH (by rfl)];refine bR Z ak aD ay ?_;obtain ⟨E,r⟩:=az (am.setRow B o);have au:Fr E B o 142:=(by show _=_;rw [r];exact xz _ _ _ _ _ _ Z.out);have av:Hid (E.ownsRow 0 3 1 c (dlAt ws (bs m) k).coms.length (pah (dlAt ws (bs m) k).coms)):=(by rw [r];exact paj aq.out (fun x f=>yD _ _ _ _ (ad.out x (.inl f))));have ap:Hid (paU E b (dlAt ws (bs m) k).boxes):=(by rw [r];exact paj aw.out (fun x f=>yD _ _ _ _ (ad.out x (.inr f))));have O:=ag.setRowNew bD o;rw [<-r] at O ⊢;clear r;refine tkK j (F.out _ O) fun t=>?_;clear j K;refine tkY 18 t ?_;refine tkD ?_;exact hJ J X c b o B E aa au av ap ai ac (ah O)
         refine tkZ fun K j=>?_;go_simp;obtain ⟨B,aB,ab,r,al,hq⟩:=paw (aJ) (.cells dlZ 142);have Y:aB=(aJ).alloc (.cells #[.slice none 0 0,.int .i64 0,.slice none 0 0] 142):=r;rw [<-ab,<-Y];have bD:H.heap.size<=B:=(by have:=U.size;omega);have G:=U.trans hq;have aj:=ah (ar.out.upd hq);clear ab r Y hq;refine tkK j (F.out _ G) fun t=>?_;clear j K;refine tk1 12 fun K j=>?_;go_simp;have af:m ++ ⟨#[32]⟩ ++ J=P:=pcI (by rw [aI.out,pae,pae,aF.out];unfold sdL;rw [<-HI.out];rfl);rw [af];refine (peD pv X _ _ P _ (aH.out.upd G) aj.out (fun c hc=>peA c hc) pdh T.out.1 T.out.2.1 T.out.2.2 aG).mono ?_;rintro e am ⟨c,b,D,C,R,rfl,hq⟩;have ag:=G.trans hq;have Z:=ah (paa al.out hq);have a4:=ah (aj.out.upd hq);rw [aK.out] at D C ⊢;have aq:=D;have aw:=C;have ai:Hid (∀ x,x∈foot c\/x∈foot b->H.heap.size<=x):=fun x f=>xB G.size (R.out x f);have ad:Hid (∀ x,x∈foot c\/x∈foot b->x≠B):=fun x f e=>(by have h1:=R.out x f;have h2:=paf al.out;rw [e] at h1;exact absurd h2 (Nat.not_lt.2 h1));obtain ⟨o,A⟩:=az (dlC c ((dlAt ws (bs m) k).point:Int) b);have aa:=ah A;rw [<-A];have ak:Fi 142 o:=(by rw [A];exact pbB _ _ _);have aD:Hid (dlZ.size=o.size):=(by show _=_;rw [A];rfl);obtain ⟨a3,aV,N,ax,aA⟩:=pan D.out;obtain ⟨aZ,aT,M,hb1,aC⟩:=pan C.out;have ay:Fo o:=(by show _=_;rw [A,N,M];simp [dlC,Value.oneCell']);have ac:Hid (c.oneCell'=true/\b.oneCell'=true):=(by rw [N,M];exact ⟨rfl,rfl⟩);clear A N ax aA M hb1 aC D C R hq af;go_wp2_with fail;refine tkK j (F.out _ ag) fun t=>?_;clear j K;refine tkS [13,14,15] t ?_;refine tk1 17 fun K j=>?_;rw [xH (by rfl)];refine bR Z ak aD ay ?_;obtain ⟨E,r⟩:=az (am.setRow B o);have au:Fr E B o 142:=(by show _=_;rw [r];exact xz _ _ _ _ _ _ Z.out);have av:Hid (E.ownsRow 0 3 1 c (dlAt ws (bs m) k).coms.length (pah (dlAt ws (bs m) k).coms)):=(by rw [r];exact paj aq.out (fun x f=>yD _ _ _ _ (ad.out x (.inl f))));have ap:Hid (paU E b (dlAt ws (bs m) k).boxes):=(by rw [r];exact paj aw.out (fun x f=>yD _ _ _ _ (ad.out x (.inr f))));have O:=ag.setRowNew bD o;rw [<-r] at O ⊢;clear r;refine tkK j (F.out _ O) fun t=>?_;clear j K;refine tkY 18 t ?_;refine tkD ?_;exact hJ J X c b o B E aa au av ap ai ac (ah O)
       refine tkZ fun K j=>?_;go_simp;obtain ⟨B,aJ,ab,r,aY,hq⟩:=paw (aP) (.cells dlZ 142);have Y:aJ=(aP).alloc (.cells #[.slice none 0 0,.int .i64 0,.slice none 0 0] 142):=r;rw [<-ab,<-Y];have bD:H.heap.size<=B:=(by have:=an.size;omega);have U:=an.trans hq;have ar:=ah (ba.out.upd hq);clear ab r Y hq;refine tkK j (F.out _ U) fun t=>?_;clear j K;refine tk1 10 fun K j=>?_;go_simp;refine (pct I _ (by omega)).mono ?_;rintro e aB ⟨J,aF,bf,rfl,hq⟩;have G:=U.trans hq;have al:=ah (paa aY.out hq);have aj:=ah (ar.out.upd hq);have a9:¬ 9223372036854775807<m.size+1+J.size:=(by omega);clear hq;go_wp2_with fail;refine tkK j (F.out _ G) fun t=>?_;clear j K;refine tkY 11 t ?_;refine tk1 12 fun K j=>?_;go_simp;have af:m ++ ⟨#[32]⟩ ++ J=P:=pcI (by rw [aI.out,pae,pae,aF.out];unfold sdL;rw [<-HI.out];rfl);rw [af];refine (peD pv X _ _ P _ (aH.out.upd G) aj.out (fun c hc=>peA c hc) pdh T.out.1 T.out.2.1 T.out.2.2 aG).mono ?_;rintro e am ⟨c,b,D,C,R,rfl,hq⟩;have ag:=G.trans hq;have Z:=ah (paa al.out hq);have a4:=ah (aj.out.upd hq);rw [aK.out] at D C ⊢;have aq:=D;have aw:=C;have ai:Hid (∀ x,x∈foot c\/x∈foot b->H.heap.size<=x):=fun x f=>xB G.size (R.out x f);have ad:Hid (∀ x,x∈foot c\/x∈foot b->x≠B):=fun x f e=>(by have h1:=R.out x f;have h2:=paf al.out;rw [e] at h1;exact absurd h2 (Nat.not_lt.2 h1));obtain ⟨o,A⟩:=az (dlC c ((dlAt ws (bs m) k).point:Int) b);have aa:=ah A;rw [<-A];have ak:Fi 142 o:=(by rw [A];exact pbB _ _ _);have aD:Hid (dlZ.size=o.size):=(by show _=_;rw [A];rfl);obtain ⟨a3,aV,N,ax,aA⟩:=pan D.out;obtain ⟨aZ,aT,M,hb1,aC⟩:=pan C.out;have ay:Fo o:=(by show _=_;rw [A,N,M];simp [dlC,Value.oneCell']);have ac:Hid (c.oneCell'=true/\b.oneCell'=true):=(by rw [N,M];exact ⟨rfl,rfl⟩);clear A N ax aA M hb1 aC D C R hq af;go_wp2_with fail;refine tkK j (F.out _ ag) fun t=>?_;clear j K;refine tkS [13,14,15] t ?_;refine tk1 17 fun K j=>?_;rw [xH (by rfl)];refine bR Z ak aD ay ?_;obtain ⟨E,r⟩:=az (am.setRow B o);have au:Fr E B o 142:=(by show _=_;rw [r];exact xz _ _ _ _ _ _ Z.out);have av:Hid (E.ownsRow 0 3 1 c (dlAt ws (bs m) k).coms.length (pah (dlAt ws (bs m) k).coms)):=(by rw [r];exact paj aq.out (fun x f=>yD _ _ _ _ (ad.out x (.inl f))));have ap:Hid (paU E b (dlAt ws (bs m) k).boxes):=(by rw [r];exact paj aw.out (fun x f=>yD _ _ _ _ (ad.out x (.inr f))));have O:=ag.setRowNew bD o;rw [<-r] at O ⊢;clear r;refine tkK j (F.out _ O) fun t=>?_;clear j K;refine tkY 18 t ?_;refine tkD ?_;exact hJ J X c b o B E aa au av ap ai ac (ah O)
     refine tkZ fun K j=>?_;go_simp;obtain ⟨B,aP,ab,r,bl,hq⟩:=paG H (.cells dlZ 142);have Y:aP=(H.alloc (.cells #[.slice none 0 0,.int .i64 0,.slice none 0 0] 142)).drew:=r;rw [<-ab,<-Y];have bD:H.heap.size<=B:=(by omega);have an:=hq;clear ab r Y hq;refine tkK j (F.out _ an) fun t=>?_;clear j K;refine tk1 2 fun K j=>?_;go_simp;refine (pjH _ ws _ a1.out (a5.out.upd an)).mono ?_;rintro e aJ ⟨X,aL,rfl,hq⟩;have U:=an.trans hq;have aY:=ah (paa bl.out hq);have ar:=aL;clear hq aL;go_wp2_with fail;refine tkK j (F.out _ U) fun t=>?_;clear j K;refine tk1 10 fun K j=>?_;go_simp;refine (pct I _ (by omega)).mono ?_;rintro e aB ⟨J,aF,bf,rfl,hq⟩;have G:=U.trans hq;have al:=ah (paa aY.out hq);have aj:=ah (ar.out.upd hq);have a9:¬ 9223372036854775807<m.size+1+J.size:=(by omega);clear hq;go_wp2_with fail;refine tkK j (F.out _ G) fun t=>?_;clear j K;refine tkY 11 t ?_;refine tk1 12 fun K j=>?_;go_simp;have af:m ++ ⟨#[32]⟩ ++ J=P:=pcI (by rw [aI.out,pae,pae,aF.out];unfold sdL;rw [<-HI.out];rfl);rw [af];refine (peD pv X _ _ P _ (aH.out.upd G) aj.out (fun c hc=>peA c hc) pdh T.out.1 T.out.2.1 T.out.2.2 aG).mono ?_;rintro e am ⟨c,b,D,C,R,rfl,hq⟩;have ag:=G.trans hq;have Z:=ah (paa al.out hq);have a4:=ah (aj.out.upd hq);rw [aK.out] at D C ⊢;have aq:=D;have aw:=C;have ai:Hid (∀ x,x∈foot c\/x∈foot b->H.heap.size<=x):=fun x f=>xB G.size (R.out x f);have ad:Hid (∀ x,x∈foot c\/x∈foot b->x≠B):=fun x f e=>(by have h1:=R.out x f;have h2:=paf al.out;rw [e] at h1;exact absurd h2 (Nat.not_lt.2 h1));obtain ⟨o,A⟩:=az (dlC c ((dlAt ws (bs m) k).point:Int) b);have aa:=ah A;rw [<-A];have ak:Fi 142 o:=(by rw [A];exact pbB _ _ _);have aD:Hid (dlZ.size=o.size):=(by show _=_;rw [A];rfl);obtain ⟨a3,aV,N,ax,aA⟩:=pan D.out;obtain ⟨aZ,aT,M,hb1,aC⟩:=pan C.out;have ay:Fo o:=(by show _=_;rw [A,N,M];simp [dlC,Value.oneCell']);have ac:Hid (c.oneCell'=true/\b.oneCell'=true):=(by rw [N,M];exact ⟨rfl,rfl⟩);clear A N ax aA M hb1 aC D C R hq af;go_wp2_with fail;refine tkK j (F.out _ ag) fun t=>?_;clear j K;refine tkS [13,14,15] t ?_;refine tk1 17 fun K j=>?_;rw [xH (by rfl)];refine bR Z ak aD ay ?_;obtain ⟨E,r⟩:=az (am.setRow B o);have au:Fr E B o 142:=(by show _=_;rw [r];exact xz _ _ _ _ _ _ Z.out);have av:Hid (E.ownsRow 0 3 1 c (dlAt ws (bs m) k).coms.length (pah (dlAt ws (bs m) k).coms)):=(by rw [r];exact paj aq.out (fun x f=>yD _ _ _ _ (ad.out x (.inl f))));have ap:Hid (paU E b (dlAt ws (bs m) k).boxes):=(by rw [r];exact paj aw.out (fun x f=>yD _ _ _ _ (ad.out x (.inr f))));have O:=ag.setRowNew bD o;rw [<-r] at O ⊢;clear r;refine tkK j (F.out _ O) fun t=>?_;clear j K;refine tkY 18 t ?_;refine tkD ?_;exact hJ J X c b o B E aa au av ap ai ac (ah O)
    intro J X c b o B w5 aa bI D C ai ac aE
    skip
    have bw:Hid ((Instr.buildSlice 128 1 #[(0,.agg o)]).run prog w5=.ok (.slice (some ⟨w5.heap.size,0,none⟩) 1 1) (w5.alloc (.cells o 142))):=by show _=_;rw [aa.out];exact pro _ _ _ _
    have ak:Fi 142 o:=by rw [aa.out];exact pbB _ _ _
    have bd:=pdE a2.out aE.out;have bj:DsIs w5 (foot u5 ++ List.range w.heap.size) (dsN ws (bs m) k) cb:=a0.out.keep (fun x f Q=>⟨xA f aE.out.size,Q,aE.out.block x f (by simp)⟩);obtain ⟨u',w6,a6,aR,aO⟩:=ppU w5 u5 (dsN ws (bs m) k) cb k (dlAt ws (bs m) k) c b a0.out.1 bd (by omega) ac.out.1 ac.out.2;rw [<-pmn] at aR;have bc:∀ x,x∈foot u5->x<H.heap.size:=pag a2.out;have bh:DsIs w6 (foot u' ++ List.range w.heap.size) (dsN ws (bs m) (k+1)) (cb ++ [(c,b)]):=by
     rw [pmn];have bt:∀ x,x∈foot c\/x∈foot b->x<w5.heap.size/\x ∉ foot u5 ++ List.range w.heap.size:=fun x f=>⟨f.elim (fun h=>pag D.out x h) (fun h=>C.out.lt x h),fun hu=>by
      have h2:=ai.out x f;have h3:=aM.out.size;rcases yq.1 hu with hu | hu
      · have h1:=bc x hu;omega
      · have:=uv.1 hu;omega⟩
     have h5:=bj.snoc (d:=dlAt ws (bs m) k) D.out C.out bt;exact h5.keep (fun x f Q=>by
      rw [yq,not_or] at Q;obtain ⟨a,b,c⟩:=prj aO f Q.1;exact ⟨a,by rw [yq,not_or];exact ⟨b,Q.2⟩,c⟩)
    have bq:Hid ((Builtin.append_ #[128,128] 128 #[u5,.slice (some ⟨w5.heap.size,0,none⟩) 1 1]).run prog (w5.alloc (.cells o 142))=.ok u' w6):=by show _=_;rw [aa.out];exact a6
    have bC:=ah aR;have br:=ah bh;have bK:=ah ((aM.out.trans aE.out).past2 aO HF.out);have bo:Hid (∀ x,x∈foot u'->w.heap.size<=x):=fun x f=>by
     rcases aO.new x f with q | q
     · exact HF.out x q
     · have:=aM.out.size;have:=aE.out.size;omega
    clear bd bj a6 aR aO bc bh D C ai ac aE a0 a2 aM aH bg T aK F bm aQ;go_wp2_with (first | (refine bL bI underlying142 ak ?_) | (refine wpList_buildRun rfl 128 1 _ rfl _ _ (zP (xU (fun z=>(Instr.buildSlice 128 1 z).run prog w5) (by kernel_rfl)) bw.out) ?_) | (refine bN bq ?_))
    exact ⟨⟨k+1,_,by go_num,by omega,bC.out,br.out,bK.out,bo.out⟩,(by first | (simp [intOf];done) | (simp [intOf];omega))⟩
  · obtain rfl:k=n:=by omega
    have bz:Hid (∀ W,paC w wr W->pns w.heap.size W u5 (dsN ws (bs m) k)):=fun W hW=>by
     refine ⟨cb,?_,HD.out.keep (fun x f Q=>?_),HF.out⟩
     · rw [pe7];exact paj HR.out (fun x f=>hW x (HF.out x f) (pag HR.out x f))
     · have bv:=Q;rw [yq,not_or,uv] at bv;have he:=hW x (by omega) f;exact ⟨by rw [yv f] at he;exact paf he,Q,he⟩
    go_wp2;go_ret;exact ⟨_,bz,rfl,HU.out⟩
theorem pij (v ws a w) (c:WsOk ws) (h:pbN w v ws) (g:a.size<=100000) :
 Calls prog 60 #[v,.string a] w (fun e w'=>∃ u,Hid (∀ W,paC w w' W->DsRd W u (dsN ws (bs a) ws.length))/\e=.returned u/\Uq w w'):=by
 refine (pbJ v ws a w c h g).mono ?_;rintro e w' ⟨u,H,rfl,d⟩;exact ⟨u,fun W f=>(H.out W f).rd,rfl,d⟩
theorem ppV (c p):(prog.info? 30).map (·.size)=some (#[c,p]:Array Value).size:=by
 show _=some 2;kernel_rfl
theorem prp (k):List.replicate (k+1) (1:Nat)=List.replicate k 1 ++ [1]:=uf
def ptT (ws:List Nat) (ds:List Dl) (w:World) (e:Ending) (w':World):Prop:=∃ c p:Value,Hid (∀ W,paC w w' W->Sl W c (mixL ds (needN ws.sum)))/\Hid (∀ W,paC w w' W->pel W p (pdg ws))/\Hid (c.oneCell'=true/\p.oneCell'=true)/\e=.returned (.tuple #[.agg #[c,p],.bool true])/\Upd [] [] w w'
theorem pnt (v dv ws ds w) (r:WsOk ws) (h:pbN w v ws) (n:DsRd w dv ds) (hg:∀ d∈ds,phD d ws.sum/\d.coms.length=needN ws.sum) (hl:ds.length=ws.length) :
 Calls prog 64 #[v,dv] w (ptT ws ds w):=by
 obtain ⟨gR,aj⟩:=ae (w.heap.size);obtain ⟨z,ak⟩:=ae (w.alloc (.cells #[.slice none 0 0,.slice none 0 0] 30));have T:=ah (aW aj ak);have F:=ah (aU ak);have HG:Hid (w.heap.size<=gR):=xJ aj;have C:=r.sum;have ar:=r.1;have aq:=r.2.1;have ax:=ah r;have an:=ah (h.upd F.out);have N:=ah (n.upd F.out);have O:=ah hg;obtain ⟨ao,aH,rfl,c1,c2,ap⟩:=n;obtain ⟨m,hm⟩:=az (ds.length);have H:=ah hm;obtain ⟨S,D⟩:=az (ws.sum);have HS:=ah D;rw [<-hm] at c1 N ⊢;rw [<-D] at C;have aL:1<=m/\m<=4:=by omega
 have aM:((S:Int) == 0)=false:=by rw [xm];omega
 have P:=ah (pdX v ws z r an.out);rw [<-D] at P;clear ap hg hl r h hm D ar aq;go_in;go_wp2_with fail;refine P.out.mono ?_;rintro e w2 ⟨rfl,hq⟩;have X:=ah hq;clear hq P;go_wp2_with fail;refine (ppR _ ds S w2 (N.out.upd X.out) (fun d n=>by have:=O.out d n;rw [<-HS.out] at this;exact this) C.1 (by omega) (by rw [<-H.out];omega) (by rw [<-H.out];omega)).mono ?_;rintro e w3 ⟨rfl,hq⟩;have U3:=ah (X.out.trans hq);clear hq X;go_wp2;go_loopw [8,9] (fun u i wr=>∃ k:Nat,i=.int .i64 (k:Int)/\k<=m/\Hid (wr.ownsRow 0 3 1 u k (pah (List.replicate k 1)))/\Hid (Upd [] (foot u) z wr)) (fun _ i _=>m - (intOf i).toNat)
 case atStart=>exact ⟨0,rfl,xu _,x9 _ _ _ _,(by show Upd [] (foot (.slice none 0 0)) _ _;exact U3.out)⟩
 case round =>
  obtain ⟨k,rfl,hk,E,J⟩:=hrel;by_cases aI:k<m
  · obtain ⟨u',w',ab,M,ad⟩:=paZ wr u8 (List.replicate k 1) k 1 zx E.out (by omega);rw [<-prp] at M;have aa:(Builtin.append_ #[22,22] 22 #[u8,.slice (some ⟨wr.heap.size,0,none⟩) 1 1]).run prog (wr.alloc (.cells #[.int .i64 1] 3))=.ok u' w':=ab;have aG:=ah aa;have aC:=ah M;have av:=ah (J.out.trans ad);have x1:(k:Int)<(m:Int):=by omega
    clear ab aa M ad E J;go_wp2_with (refine bN aG ?_)
    exact ⟨⟨k+1,by go_num,by omega,aC.out,av.out⟩,(by first | (simp [intOf];done) | (simp [intOf];omega))⟩
  · obtain rfl:k=m:=by omega
    have G:Hid (Uq z wr):=J.out.mono (fun _ h=>h) (fun _ h=>absurd h (by simp));have am:Hid (Sl wr u8 (List.replicate ds.length 1)):=Sl.of_digs zx (by rw [<-H.out];exact E.out);have x1:¬ (k:Int)<(k:Int):=by omega
    clear E J;go_wp2_with fail;refine (pla v ws wr ax.out (an.out.upd G.out)).mono ?_;rintro e U ⟨p,Z,rfl,hq⟩;obtain ⟨w4,aK⟩:=az (wr);have A:Hid (z.heap.size<=wr.heap.size/\wr.heap.size<=U.heap.size):=⟨G.out.size,hq.size⟩
    have Y:=ah (G.out.trans hq);have af:=ah (am.out.upd hq);clear hq G am;go_wp2_with fail;refine (peB S U C.1 (by omega)).mono ?_;rintro e w' ⟨rfl,rfl⟩;obtain ⟨q,B⟩:=az (needN S);have aN:1<=q/\q<=S:=by rw [B];exact pdC C.1
    have HQ:=ah B;rw [<-B];clear B;go_wp2_with fail;refine (pnr _ u8 ds q U (N.out.upd Y.out) af.out (fun d n=>⟨by rw [(O.out d n).2,HQ.out,HS.out],fun x hx=>((O.out d n).1.1 x hx).2.1⟩) (by omega) (by rw [<-H.out];omega)).mono ?_;rintro e j ⟨c,ai,rfl,hq⟩;have U6:=ah (Y.out.trans hq);have au:=ah (ai.out j (paC.refl _ _));have aA:=ah (Z.out j (fun x h1 K=>hq.block x K (by simp)));have ac:=ah hq;have S6:=ah (paa T.out U6.out);obtain ⟨ca,cc,t,_,_⟩:=au.out.form;obtain ⟨pa,pc,y,_,_,_⟩:=aA.out;have aJ:=ah t;have aP:=ah y;obtain ⟨a,o⟩:∃ a:Array Value,a=#[c,p]:=⟨_,rfl⟩
    have HB:Hid (prog.built 30 [(0,c),(1,p)]=some a):=by show _=_;rw [o,t,y];kernel_rfl
    have HI:Fi 30 a:=by rw [o];exact ppV c p
    have HZ:Hid ((#[.slice none 0 0,.slice none 0 0]:Array Value).size=a.size):=by show _=_;rw [o];rfl
    have HO:Fo a:=by show _=_;rw [o,t,y];simp [Value.oneCell']
    have ay:=ah o;obtain ⟨g,f⟩:=ae (j.setRow gR a);have aD:=ah f;have S7:=ah (show g.heap[gR]? =some (.cells a 30 (0,0)) by rw [<-f];exact xz _ _ _ _ _ _ S6.out);have aO:Hid (∀ x,z.heap.size<=x->x≠gR):=fun x hx=>by have:=paf T.out;omega
    have U7:=ah (show Uq w g by rw [<-f];exact (F.out.trans U6.out).setRowNew HG.out a);have al:=ah (paf T.out);have ag:=ah F.out.size;have aw:Hid (∀ W,paC w g W->Sl W c (mixL ds q)):=fun W R=>ai.out W (fun x h1 K=>by
     have Q:x≠gR:=by have:=A.out;have:=al.out;omega
     have he:g.heap[x]? =j.heap[x]?:=by rw [<-f];exact yD _ _ _ _ Q
     have aE:g.heap.size=j.heap.size:=by rw [<-f];simp
     exact (R x (by have:=A.out;have:=ag.out;omega) (by omega)).trans he)
    have aF:Hid (∀ W,paC w g W->pel W p (pdg ws)):=fun W R=>Z.out W (fun x h1 K=>by
     have Q:x≠gR:=by have:=A.out;have:=al.out;omega
     have he:g.heap[x]? =j.heap[x]?:=by rw [<-f];exact yD _ _ _ _ Q
     have aE:g.heap.size=j.heap.size:=by rw [<-f];simp
     exact ((R x (by have:=A.out;have:=ag.out;omega) (by have:=ac.out.size;omega)).trans he).trans (ac.out.block x K (by simp)))
    have aB:Hid (c.oneCell'=true/\p.oneCell'=true):=by rw [t,y];exact ⟨rfl,rfl⟩
    clear hq o f t y Y af Z;go_wp2_with (first | (refine bB HB ?_) | (refine bS S6 HI HZ HO aD ?_))
    refine xI (results_row_tmp rfl _ _ gR _ a _ _ rfl S7.out underlying30 rfl HI.out) rfl ⟨c,p,?_,aF,aB,by rw [ay.out];rfl,U7.out⟩;have h:=aw.out;rw [HQ.out,HS.out] at h;exact h
end Go.Proofs.YtkhjolbbpdaplaaGreatDoor
