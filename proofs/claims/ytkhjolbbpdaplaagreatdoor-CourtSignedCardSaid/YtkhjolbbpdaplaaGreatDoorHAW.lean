/- A crew and its group, plainly (sortesref08.Crew, Boxes, Dealings, Begin, Made) and what follows. -/
import Derived.Test.YtkhjolbbpdaplaaGreatDoorHAV
import Derived.Test.YtkhjolbbpdaplaaGreatDoorHAO
import Derived.Test.YtkhjolbbpdaplaaGreatDoorHAS
namespace Go.Proofs.YtkhjolbbpdaplaaGreatDoor
set_option maxHeartbeats 1000000
open Go.RowKit Go.Proofs.Tryz
set_option maxRecDepth 100000
def nxtN (l:List Int) (k n:Nat):Nat:=match l[k]? with
 | some x=>(x % (n:Int)).toNat
 | none=>0
theorem pig (l k n) (a:0<n):nxtN l k n<n:=by
 unfold nxtN;split
 · have:=yj (‹Int›) (show (0:Int)<n by omega);have:=yF (‹Int›) (show (n:Int)≠0 by omega);omega
 · exact a
theorem ppG {l k n x} (h:l[k]? =some x) (a:0<n):((nxtN l k n:Nat):Int)=x % (n:Int):=by
 unfold nxtN;rw [h];have:=yF x (show (n:Int)≠0 by omega);show ((x % (n:Int)).toNat:Int)=_;omega
theorem pgw {l k n} (h:l.length<=k):nxtN l k n=0:=by
 unfold nxtN;rw [vk h]
def psV (i:Nat):List UInt8:=[109,101,109,98,101,114,32] ++ Lib.itoa (i:Int)
def secN (i:Nat):Nat:=keyN (psV (i+1))
def memC (i w:Nat):Mem:=⟨((i+1:Nat):Int),(w:Int),(gP (secN i):Int)⟩
def pdp (ws:List Nat):List Mem:=(List.range ws.length).map fun i=>memC i (ws.getD i 0)
def pce (n:Nat):List Nat:=(List.range n).map secN
def manyN (l:List Int):Nat:=1+nxtN l 0 4
def wsN (l:List Int) (n:Nat):List Nat:=(List.range n).map fun i=>1+nxtN l (i+1) 3
def WsOk (ws:List Nat):Prop:=1<=ws.length/\ws.length<=4/\∀ w∈ws,1<=w/\w<=3
theorem pjB (l):WsOk (wsN l (manyN l)):=by
 have h:=pig l 0 4 (by omega);refine ⟨by simp [wsN,manyN],by simp [wsN,manyN];omega,fun w a=>?_⟩;simp only [wsN,zh] at a;obtain ⟨i,_,rfl⟩:=a;have:=pig l (i+1) 3 (by omega);omega
theorem pe3 (ws):(pdp ws).length=ws.length:=by simp [pdp]
theorem paW {ws i w} (h:ws[i]? =some w):(pdp ws)[i]? =some (memC i w):=by
 have a:=(xe.1 h).1;have e:ws.getD i 0=w:=by rw [xx,h];rfl
 simp [pdp,a,<-e]
theorem pjC:∀ {ws:List Nat},(∀ w∈ws,w<=3)->ws.sum<=3 * ws.length
 | [],_=>by simp
 | w :: r,h=>by
  have:=pjC (ws:=r) (fun x a=>h x (by simp [a]))
  have:=h w (by simp)
  simp
  omega
theorem WsOk.sum {ws} (h:WsOk ws):1<=ws.sum/\ws.sum<=12:=by
 obtain ⟨h1,d,a⟩:=h;have:=pjC (fun w c=>(a w c).2);refine ⟨?_,by omega⟩
 match ws,h1 with
 | w :: r,_ =>
  have:=(a w (by simp)).1;simp;omega
def pa4 (ws:List Nat):List Nat:=(List.range ws.length).flatMap fun i=>List.replicate (ws.getD i 0) (gP (secN i))
def startN (ws:List Nat) (i:Nat):Nat:=(ws.take i).sum
def pdg (ws:List Nat):List (List Nat):=(List.range ws.length).map fun i=>(List.range (ws.getD i 0)).map fun j=>startN ws i+j+1
theorem pdW {P} (t e i z size c) (E:P.underlying t=some (.slice e)) (C:P.info? e=some i) (G:i.zero=some z) (n:i.size=size) (r:i.bytes=c) (B:z.cells.size=size) (A:0<size) (D:c<=1000)
 (wr v k d cs) (x:cs.length=size) (h1:∀ u∈cs,u.oneCell'=true) (g:wr.ownsRow 0 e size v k d) (H:k<=1000000) :
 ∃ a w',(Builtin.append_ #[t,t] t #[v,.slice (some ⟨wr.heap.size,0,none⟩) 1 1]).run P (wr.alloc (.cells cs.toArray e))=.ok a w'/\w'.ownsRow 0 e size a (k+1) (d ++ cs)/\Upd (foot v) (foot a) wr w':=by
 have q:(wr.alloc (.cells cs.toArray e)).ownsRow 0 e size v k d:=paj g (fun j f=>xY _ _ _ (pag g j f));have y:(wr.alloc (.cells cs.toArray e)).heap[wr.heap.size]? =some (.cells cs.toArray e (0,0)):=xi _ _;have w:(k+1) * c<=140737488355328:=xB (zC (show k+1<=1000001 by omega) D) (by decide);obtain ⟨a,w',o,m,p⟩:=pa0 (P:=P) (wr.alloc (.cells cs.toArray e)) t t e i z size c E C G n r B A v k d q ⟨wr.heap.size,0,none⟩ 1 1 cs (by rw [x,uG]) (by
  intro j u f;have F:(⟨wr.heap.size,0,none⟩:Addr).add j=⟨wr.heap.size,j,none⟩:=by simp [Addr.add];exact fun h=>h.symm
  rw [F,xa _ _ _ _ _ _ y,xD];exact f) h1 w (by simp only [maxLen];omega)
 exact ⟨a,w',o,m,(uR.alloc _).trans p⟩
theorem prj {u f d c} (a:Upd (foot u) (foot f) d c) {x} (e:x<d.heap.size) (g:x ∉ foot u):x<c.heap.size/\x ∉ foot f/\c.heap[x]? =d.heap[x]?:=by
 refine ⟨xA e a.size,fun h=>?_,a.block x e g⟩;rcases a.new x h with h | h
 · exact g h
 · omega
theorem Sl.of_digs {w v l n} (a:l.length=n) (h:w.ownsRow 0 3 1 v n (pah l)):Sl w v l:=by
 subst a;exact Sl.of_row h
def DsIs (w:World) (F:List Nat) (ds:List Dl) (cb:List (Value × Value)):Prop :=
 cb.length=ds.length/\∀ (k:Nat) d p,ds[k]? =some d->cb[k]? =some p->w.ownsRow 0 3 1 p.1 d.coms.length (pah d.coms)/\paU w p.2 d.boxes/\∀ x,x∈foot p.1\/x∈foot p.2->x<w.heap.size/\x ∉ F
theorem DsIs.nil (w F):DsIs w F [] []:=⟨rfl,fun k d p h _=>by simp at h⟩
theorem DsIs.keep {w w' F f ds cb} (h:DsIs w F ds cb) (e:∀ x,x<w.heap.size->x ∉ F->x<w'.heap.size/\x ∉ f/\w'.heap[x]? =w.heap[x]?):DsIs w' f ds cb:=by
 refine ⟨h.1,fun k d p m g=>?_⟩;obtain ⟨h1,j,c⟩:=h.2 k d p m g;exact ⟨paj h1 (fun x a=>(e x (c x (.inl a)).1 (c x (.inl a)).2).2.2),paU.same j (fun x a=>(e x (c x (.inr a)).1 (c x (.inr a)).2).2.2),fun x a=>⟨(e x (c x a).1 (c x a).2).1,(e x (c x a).1 (c x a).2).2.1⟩⟩
theorem DsIs.snoc {w F ds cb d c b} (h:DsIs w F ds cb) (m:w.ownsRow 0 3 1 c d.coms.length (pah d.coms)) (j:paU w b d.boxes) (g:∀ x,x∈foot c\/x∈foot b->x<w.heap.size/\x ∉ F):DsIs w F (ds ++ [d]) (cb ++ [(c,b)]):=by
 refine ⟨by simp [h.1],fun k d' p a e=>?_⟩;rcases uw k ds.length with hk | hk
 · rw [yu hk] at a;rw [yu (by rw [h.1];exact hk)] at e;exact h.2 k d' p a e
 · rw [xC hk] at a;rw [xC (by rw [h.1];exact hk),h.1] at e;have f:k - ds.length=0:=by
    have:=(xe.1 a).1;simp at this;omega
   rw [f] at a e;simp at a e;subst a;subst e;exact ⟨m,j,g⟩
def pcH:List Dl->List (Value × Value)->List Value
 | d :: ds,p :: cb=>p.1 :: .int .i64 (d.point:Int) :: p.2 :: pcH ds cb
 | _,_=>[]
theorem pgx:∀ {ds:List Dl} {cb:List (Value × Value)} (d:Dl) (p:Value × Value),cb.length=ds.length->pcH (ds ++ [d]) (cb ++ [p])=pcH ds cb ++ [p.1,.int .i64 (d.point:Int),p.2]
 | [],[],_,_,_=>rfl
 | a :: ds,q :: cb,d,p,h=>by
  have:=pgx (ds:=ds) (cb:=cb) d p (by simpa using h)
  simp [pcH,this]
 | [],_ :: _,_,_,h=>by simp at h
 | _ :: _,[],_,_,h=>by simp at h
theorem pe4:∀ {ds:List Dl} {cb:List (Value × Value)} (k:Nat) (d:Dl) (p:Value × Value),ds[k]? =some d->cb[k]? =some p->(pcH ds cb)[k * 3]? =some p.1/\(pcH ds cb)[k * 3+1]? =some (.int .i64 (d.point:Int))/\(pcH ds cb)[k * 3+2]? =some p.2
 | a :: ds,q :: cb,0,d,p,h,h'=>by
  simp at h h'
  subst h
  subst h'
  exact ⟨rfl,rfl,rfl⟩
 | a :: ds,q :: cb,k+1,d,p,h,h'=>by
  have:=pe4 (ds:=ds) (cb:=cb) k d p (by simpa using h) (by simpa using h')
  have e:(k+1) * 3=k * 3+3:=by omega
  rw [e]
  simpa [pcH] using this
 | [],_,_,_,_,h,_=>by simp at h
 | _ :: _,[],_,_,_,_,h=>by simp at h
theorem ppH (t:Nat) (w) (h1:1<=t) (n:t<=1000):Calls prog 131 #[t] w (Ret (.int .i64 (((t - 1) / 3:Nat):Int)) w):=by
 obtain ⟨q,hq⟩:=az (t / 3);obtain ⟨m,a⟩:=az ((t - 1) / 3);rw [<-a];have g:(t:Int).tdiv 3=(q:Int):=by rw [xP (by omega)];omega
 have o:(t:Int) / 3=(q:Int):=by omega
 have f:3 * q<=t/\t<=3 * q+2/\3 * m+1<=t/\t<=3 * m+3:=by omega
 clear hq a;go_in;go_wp2;go_loopw [3] (fun i wr=>∃ k:Nat,i=.int .i64 (k:Int)/\k<=m/\wr=w) (fun i _=>m - (intOf i).toNat)
 case atStart=>exact ⟨0,rfl,xu _,(by first | trivial | rfl)⟩
 case round =>
  obtain ⟨k,rfl,h,rfl⟩:=hrel;by_cases j:k<m
  · have c:(1:Int)<=(t:Int):=by omega
    have e:(k:Int)<(q:Int)+1:=by omega
    have d:3 * ((k:Int)+1)<(t:Int):=by omega
    go_wp2_with fail;exact ⟨⟨k+1,by go_num,by omega,(by first | trivial | rfl)⟩,by simp [intOf];omega⟩
  · obtain rfl:k=m:=by omega
    have c:(1:Int)<=(t:Int):=by omega
    have e:(k:Int)<(q:Int)+1:=by omega
    have d:¬ 3 * ((k:Int)+1)<(t:Int):=by omega
    go_wp2;go_ret;exact ⟨rfl,rfl⟩
theorem peB (t:Nat) (w) (h1:1<=t) (f:t<=1000):Calls prog 58 #[t] w (Ret (.int .i64 (needN t:Int)) w):=by
 have a:Hid (needN t=(t - 1) / 3+1):=by
  show _=_;unfold needN;rw [yy (by omega)]
 have d:=ah (ppH t w h1 f);obtain ⟨m,c⟩:=az ((t - 1) / 3);rw [<-c] at d a;have g:m<=1000:=by omega
 clear c;go_in;go_wp2_with fail;refine d.out.mono ?_;rintro e w' ⟨rfl,rfl⟩;go_wp2;go_ret;exact ⟨by rw [a.out];first | rfl | simp,rfl⟩
def pbN (w:World) (v:Value) (ws:List Nat):Prop:=∃ ao cap,v=.slice ao ws.length cap/\ws.length<=cap/\cap<=9223372036854775807/\peX w ao (pdp ws)
theorem pbN.upd {w w':World} {v:Value} {ws:List Nat} (h:pbN w v ws) (u:Uq w w'):pbN w' v ws:=by
 obtain ⟨d,a,e,h1,c,f⟩:=h;exact ⟨d,a,e,h1,c,f.upd u⟩
theorem paS {ws:List Nat} {k x} (h:ws[k]? =some x):(ws.take (k+1)).sum=(ws.take k).sum+x:=by
 rw [xN,h];simp
theorem pbo (ws:List Nat) (k):(ws.take k).sum<=ws.sum:=by
 have h:=zK k ws;have:ws.sum=(ws.take k).sum+(ws.drop k).sum:=by rw [<-List.sum_append,h]
 omega
theorem pdX (v ws w) (c:WsOk ws) (h:pbN w v ws):Calls prog 59 #[v] w (Mk (.int .i64 (ws.sum:Int)) w):=by
 obtain ⟨ao,Z,rfl,h1,h2,D⟩:=h;have F:=ah D;have R:=ah c;have G:=ah (pbo ws);have T:=c.sum.2;obtain ⟨n,e⟩:=az (ws.length);have u:=ah e;have ab:1<=n:=by rw [e];exact c.1
 have ac:n<=4:=by rw [e];exact c.2.1
 rw [<-e] at h1 ⊢;obtain ⟨S,q⟩:=az (ws.sum);rw [<-q] at T G ⊢;have W:=ah q;clear e D c q;go_in;go_wp2;go_loopw [3,4,5] (fun s i _ wr=>∃ (k r:Nat),s=.int .i64 (r:Int)/\i=.int .i64 (k:Int)/\k<=n/\r<=S/\Hid (r=(ws.take k).sum)/\Hid (Uq w wr)) (fun _ i _ _=>n - (intOf i).toNat)
 case atStart=>exact ⟨0,0,rfl,rfl,xu _,xu _,rfl,Upd.refl _ _⟩
 case round =>
  obtain ⟨k,r,rfl,rfl,hk,hr,A,o⟩:=hrel;by_cases J:k<n
  · obtain ⟨x,m⟩:∃ x,ws[k]? =some x:=⟨_,xd (by rw [<-u.out];exact J)⟩
    have ad:=R.out.2.2 x (xt m);obtain ⟨g,rfl,E,t,z,H⟩:=(F.out.upd o.out) k _ (paW m);dsimp only [memC] at t z H;have f:=paS m;rw [<-A.out] at f;have M:=G.out (k+1);rw [f] at M;have P:=ah f;have x1:(1:Int)<=(x:Int):=by omega
    have x2:(x:Int)<=3:=by omega
    have i0:(0:Int)<=(k:Int):=by omega
    have i1:(k:Int)<(n:Int):=by omega
    clear m f H;go_wp2;go_loopw [5] (fun i N=>∃ j:Nat,i=.int .i64 (j:Int)/\j<=k/\Hid (Uq wr N)) (fun i _=>k - (intOf i).toNat)
    case atStart=>exact ⟨0,rfl,xu _,Upd.refl _ _⟩
    case round =>
     obtain ⟨j,rfl,hj,a⟩:=hrel;by_cases aj:j<k
     · obtain ⟨y,C⟩:∃ y,ws[j]? =some y:=⟨_,xd (by rw [<-u.out];omega)⟩
       obtain ⟨g',d,af,B,U,X⟩:=(F.out.upd (o.out.trans a.out)) j _ (paW C);injection d with d;injection d with d _ _;subst d;dsimp only [memC] at B;have K:=(a.out.cell (p:=⟨g,k * 3,none⟩) E (by simp)).trans t;have ai:((j:Int)+1 == (k:Int)+1)=false:=by rw [xm];omega
       have j0:(0:Int)<=(j:Int):=by omega
       have Y:(j:Int)<(n:Int):=by omega
       clear C U X;go_upto_region 12 with (fail)
       go_quiet (fail);have O:=ah (a.out.drewN nq);clear B K a;generalize wr.drewN nq=wr2 at *;go_wp2_with fail;exact ⟨⟨j+1,by go_num,by omega,O.out⟩,by simp [intOf];omega⟩
     · obtain rfl:j=k:=by omega
       have ag:=(a.out.cell (p:=⟨g,j * 3+1,none⟩) E (by simp)).trans z;clear z t;go_wp2_with fail;exact ⟨⟨j+1,r+x,by go_num,by go_num,by omega,by omega,P.out.symm,o.out.trans a.out⟩,by simp [intOf];omega⟩
  · obtain rfl:k=n:=by omega
    have Q:Hid (r=S):=by
     show _=_;rw [A.out,W.out,u.out,yb]
    have aa:(r:Int)<=60:=by omega
    go_wp2;go_ret;exact ⟨by rw [Q.out];rfl,o.out⟩
theorem pml {p l} (h:bs p=l):p=⟨l.toArray⟩:=by
 cases p with
 | mk d =>
  simp only [bs] at h;subst h;simp
theorem pr0 {n} (h:n<9223372036854775808):(be n).length<=8:=paJ 8 n (zT h (by decide))
theorem pjD {p} (h:bs p=be 1):p=⟨#[1]⟩:=pml (h.trans pcY)
theorem ppI {p} (h:bs p=be 0):p=⟨#[]⟩:=pml (h.trans pa3)
theorem pdY (a n w) (c:bs a=be n) (d:(be n).length<=1000000):Calls prog 75 #[.string a] w (pjk n w):=by
 have h:=pa8 a w (by rw [par c];omega);rw [c,paK] at h;exact h
theorem pih (w):Calls prog 27 #[.string ⟨#[1]⟩,.string ⟨#[1]⟩] w (Ret (.int .i64 0) w):=by
 have c:=ah (fun W=>pdY ⟨#[1]⟩ 1 W pcY.symm (by rw [pcY];decide));go_in;go_wp2_with fail;refine (c.out w).mono ?_;rintro e w' ⟨p,a,rfl,rfl⟩;obtain rfl:=pjD a.out;clear a;go_wp2_with fail;refine (c.out w).mono ?_;rintro e w' ⟨p,a,rfl,rfl⟩;obtain rfl:=pjD a.out;clear a;go_wp2;go_ret;exact ⟨rfl,rfl⟩
theorem psW (a n w) (k:bs a=be n) (d:n<9223372036854775808):Calls prog 286 #[.string a,.string ⟨#[1]⟩] w (pde 1 w):=by
 have h:=ah (fun W=>pdY ⟨#[1]⟩ 1 W pcY.symm (by rw [pcY];decide));have m:=ah (fun W=>pdY a n W k (by have:=pr0 d;omega));have t:=ah (pr0 d);clear k d;go_in;go_wp2_with fail;refine (m.out w).mono ?_;rintro e w' ⟨p,g,rfl,rfl⟩;go_wp2_with fail;refine (h.out w).mono ?_;rintro e w' ⟨q,j,rfl,rfl⟩;obtain rfl:=pjD j.out;clear j;go_wp2_with fail;refine yt 2 ?_;rw [xK];go_wp2_with fail;refine (pkU p ⟨#[1]⟩ n 1 w g.out pcY.symm (by omega) (by have:=t.out;omega) (by rw [pcY];decide)).mono ?_;rintro e u ⟨x,v,o,c,rfl,f⟩;rw [Nat.mod_one] at c;obtain rfl:=ppI c.out;have r:=ah f;clear o c g f m h;go_wp2_with fail;rw [xK];go_wp2;go_ret;exact ⟨_,by show _=_;exact pcY.symm,rfl,r.out⟩
theorem ppJ:∀ n,0<n->∃ c r,be n=c :: r/\c≠0
 | n,h=>by
  rw [pgl h]
  by_cases h0:n / 256=0
  · rw [h0,pa3]
    refine ⟨_,[],rfl,fun a=>?_⟩
    have h1:=xU UInt8.toNat a
    rw [yn] at h1
    have d:(0:UInt8).toNat=0:=rfl
    rw [d] at h1
    omega
  · obtain ⟨c,r,e,a⟩:=ppJ (n / 256) (by omega)
    rw [e]
    exact ⟨c,r ++ [_],rfl,a⟩
 termination_by n=>n
 decreasing_by omega
theorem pgy (a n w) (d:bs a=be n):Calls prog 285 #[.string a] w (Ret (.bool true) w):=by
 by_cases h0:n=0
 · subst h0;obtain rfl:=ppI d;go_in;go_wp2;go_ret;exact ⟨rfl,rfl⟩
 · have g:0<a.size:=by rw [par d];exact pjg (by omega)
   have o:((a.size:Int) == 0)=false:=by rw [xm];omega
   have j:((a[0].toNat:Int) == 0)=false:=by
    rw [xm];intro h;obtain ⟨c,r,e,k⟩:=ppJ n (by omega);have f:=pl5 a g;rw [d,e] at f;injection f with h4 _;exact k (h4.trans (pkL h))
   have m:((a[0].toNat:Int) != 0)=true:=by rw [bne,j];rfl
   clear d h0;go_in;go_wp2;go_ret;exact ⟨rfl,rfl⟩
theorem phz (w):Calls prog 26 #[.int .i64 1] w (Mk (.string ⟨#[1]⟩) w):=by
 refine (pbs 1 w (by omega)).mono ?_;rintro e d ⟨r,c,rfl,a⟩;obtain rfl:=pjD c.out;exact ⟨rfl,a⟩
def ratV (N:ByteArray):Array Value:=#[.bool false,.string N,.string ⟨#[1]⟩]
theorem pk3 (N n w) (d:bs N=be n) (o:n<9223372036854775808):Calls prog 245 #[.agg (ratV N)] w (Mk (.bool true) w):=by
 obtain ⟨g,H⟩:=ae (w.heap.size);obtain ⟨a,p⟩:=ae (w.alloc (.cells (ratV N) 182));have B:=aW H p;have x:=aU p;have A:=ah x;have c:Hid (∀ W,Uq a W->W.cell? ⟨g,0,none⟩=some (.bool false)/\W.cell? ⟨g,1,none⟩=some (.string N)/\W.cell? ⟨g,2,none⟩=some (.string ⟨#[1]⟩)):=by
  intro W u;have q:=paa B u;exact ⟨xa _ g 0 _ _ _ q,xa _ g 1 _ _ _ q,xa _ g 2 _ _ _ q⟩
 have m:Uq a a.drew:=uR.drew;have v:=ah (pgy N n a d);have t:=ah (pgy ⟨#[1]⟩ 1 a pcY.symm);obtain ⟨P,U,X⟩:=c.out a uR;clear B x;by_cases h0:n=0
 · subst h0;obtain rfl:=ppI d;clear d o;go_in;go_wp2_with fail;refine v.out.mono ?_;rintro e w' ⟨rfl,rfl⟩;go_wp2_with fail;refine t.out.mono ?_;rintro e w' ⟨rfl,rfl⟩;go_upto_region 6 with (fail)
   refine bG (S:=fun C=>C.cell? ⟨g,0,none⟩=some (.bool false)/\C.cell? ⟨g,2,none⟩=some (.string ⟨#[1]⟩)) (⟨(c.out _ m).1,(c.out _ m).2.2⟩) fun k=>?_;refine tkS [0,1,2,3,4,5] k ?_;refine tk1 6 fun K h=>?_;rw [xH (by rfl)];go_simp;refine (phz _).mono ?_;rintro e Q ⟨rfl,hq⟩;have f:=m.trans hq;clear hq;go_wp2_with fail;refine tkK h (⟨(c.out _ f).1,(c.out _ f).2.2⟩) fun k=>?_;clear h K;refine tk1 7 fun K h=>?_;rw [xH (by rfl)];go_simp;refine (pih _).mono ?_;rintro e O ⟨rfl,rfl⟩;go_wp2_with fail;refine tkK h (⟨(c.out _ f).1,(c.out _ f).2.2⟩) fun k=>?_;clear h K;refine tkS [8,9,10] k ?_;refine tkD ?_;go_wp2;go_ret;exact ⟨rfl,A.out.trans f⟩
 · have J:0<N.size:=by rw [par d];exact pjg (by omega)
   have M:(N.toList == [])=false:=by
    rw [xm];intro e;rw [yi] at e;have:=xU List.length e;rw [show N.data.toList.length=N.size from rfl] at this;have R:N.size=0:=this;omega
   have z:=ah (fun W=>psW N n W d o);clear d o h0;go_in;go_wp2_with fail;refine v.out.mono ?_;rintro e w' ⟨rfl,rfl⟩;go_wp2_with fail;refine t.out.mono ?_;rintro e w' ⟨rfl,rfl⟩;go_wp2_with fail;refine (z.out a).mono ?_;rintro e E ⟨r,y,rfl,j⟩;obtain rfl:=pjD y.out;have G:=ah (A.out.trans j);clear y j z;go_wp2_with fail;refine (phz E).mono ?_;rintro e F ⟨rfl,j⟩;have D:=ah (G.out.trans j);clear j;go_wp2_with fail;refine (pih F).mono ?_;rintro e T ⟨rfl,rfl⟩;go_wp2;go_ret;exact ⟨rfl,D.out⟩
def ratZ:Array Value:=#[.bool false,.string ⟨#[]⟩,.string ⟨#[]⟩]
theorem pk4 (N):(prog.info? 182).map (·.size)=some (ratV N).size:=by
 show _=some 3;kernel_rfl
theorem pk5 (N n w) (q:bs N=be n) (z:n<9223372036854775808):Calls prog 191 #[.agg (ratV N)] w (Mk (.agg (ratV N)) w):=by
 have h:=ah (fun W=>pk3 N n W q z);obtain ⟨RV,a⟩:=az (ratV N);have c:Fi 182 RV:=by rw [a];exact pk4 N
 have A:Hid (ratZ.size=RV.size):=by show _=_;rw [a];rfl
 have F:Fo RV:=by show _=_;rw [a];simp [ratV,Value.oneCell']
 rw [<-a] at h ⊢;obtain ⟨g,D⟩:=ae (w.heap.size);obtain ⟨v,o⟩:=ae (w.alloc (.cells RV 182));have u:=aW D o;have f:=aU o;obtain ⟨gR,m⟩:=ae (v.heap.size);obtain ⟨r,p⟩:=ae (v.alloc (.cells #[.bool false,.string ⟨#[]⟩,.string ⟨#[]⟩] 182));have t:=ah (show r.heap[gR]? =some (.cells ratZ 182 (0,0)) from aW m p);have j:=aU p;have d:=ah (paa u j);have k:w.heap.size<=gR:=by rw [<-m];exact f.size
 have B:=ah k;have x:=ah (f.trans j);clear q z a u f j k;go_in;go_wp2_with (refine bL d underlying182 c ?_)
 refine (h.out r).mono ?_;rintro e G ⟨rfl,hq⟩;have C:=ah (paa d.out hq);have y:=ah (paa t.out hq);have E:=ah (x.out.trans hq);clear hq d t x h;go_wp2_with (first | (refine bL C underlying182 c ?_) | (refine bV y c A F ?_))
 refine bE (xz _ _ _ _ _ _ y.out) underlying182 c ⟨rfl,E.out.setRowNew B.out _⟩
theorem prk (n:Nat) (w) (A:n<9223372036854775808):Calls prog 136 #[n] w (fun e w'=>∃ N,Hid (bs N=be n)/\e=.returned (.agg (ratV N))/\Uq w w'):=by
 obtain ⟨gR,c⟩:=ae (w.heap.size);obtain ⟨g,d⟩:=ae (w.alloc (.cells #[.bool false,.string ⟨#[]⟩,.string ⟨#[]⟩] 182));have v:=ah (show g.heap[gR]? =some (.cells ratZ 182 (0,0)) from aW c d);have r:=ah (aU d);have m:Hid (w.heap.size<=gR):=xJ c;go_in;go_wp2_with fail;refine (pbs n g (by omega)).mono ?_;rintro e p ⟨N,k,rfl,hq⟩;have q:=ah (paa v.out hq);have x:=ah (r.out.trans hq);clear hq;go_wp2_with fail;refine (phz p).mono ?_;rintro e z ⟨rfl,hq⟩;have f:=ah (paa q.out hq);have o:=ah (x.out.trans hq);obtain ⟨RV,a⟩:=az (ratV N);have h:Fi 182 RV:=by rw [a];exact pk4 N
 have t:Hid (ratZ.size=RV.size):=by show _=_;rw [a];rfl
 have y:Fo RV:=by show _=_;rw [a];simp [ratV,Value.oneCell']
 have u:Hid (prog.built 182 [(1,.string N),(2,.string ⟨#[1]⟩)]=some RV):=by show _=_;rw [a];kernel_rfl
 have j:=ah a;clear hq a;go_wp2_with (first | (refine bB u ?_) | (refine bV f h t y ?_))
 refine bE (xz _ _ _ _ _ _ f.out) underlying182 h ⟨N,k,by rw [j.out],o.out.setRowNew m.out _⟩
theorem pnm (N n w) (o:bs N=be n) (z:n<9223372036854775808):Calls prog 135 #[.agg (ratV N)] w (MkS (Lib.itoa (n:Int)) w):=by
 have v:=ah (fun W=>pk5 N n W o z);have A:=ah (fun W=>pdf n W N o z);obtain ⟨RV,a⟩:=az (ratV N);have F:Fi 182 RV:=by rw [a];exact pk4 N
 have Z:Fo RV:=by show _=_;rw [a];simp [ratV,Value.oneCell']
 obtain ⟨g,H⟩:=ae (w.heap.size);obtain ⟨T,B⟩:=ae (w.alloc (.cells RV 182));have r:=ah (aW H B);have D:=ah (aU B);have S:Hid (w.heap.size<=g):=xJ H;have h:Hid (∀ W:World,W.heap[g]? =some (.cells RV 182 (0,0))->W.cell? ⟨g,0,none⟩=some (.bool false)/\W.cell? ⟨g,1,none⟩=some (.string N)/\W.cell? ⟨g,2,none⟩=some (.string ⟨#[1]⟩)):=by
  intro W q;rw [a] at q;exact ⟨xa _ g 0 _ _ _ q,xa _ g 1 _ _ _ q,xa _ g 2 _ _ _ q⟩
 rw [<-a] at v ⊢;clear o z a;go_in;go_wp2_with (refine bL r underlying182 F ?_)
 refine (v.out T).mono ?_;rintro e M ⟨rfl,hq⟩;have p:=ah (paa r.out hq);have G:=ah (D.out.trans hq);obtain ⟨j,f⟩:=ae (M.setRow g RV);have t:=ah (show j.heap[g]? =some (.cells RV 182 (0,0)) by rw [<-f];exact xz _ _ _ _ _ _ p.out);have Y:=ah (show Uq w j by rw [<-f];exact G.out.setRowNew S.out _);have J:=ah f;obtain ⟨P,U,X⟩:=h.out j t.out;clear hq r D G v f;go_wp2_with (refine bS p F rfl Z J ?_)
 refine (A.out j).mono ?_;rintro e k ⟨y,R,Q,rfl,hq⟩;have E:=ah (paa t.out hq);have O:=ah (Y.out.trans hq);have x:Hid (∀ W,Uq k W->W.cell? ⟨g,2,none⟩=some (.string ⟨#[1]⟩)):=fun W u=>(h.out W (paa E.out u)).2.2;obtain ⟨P,U,X⟩:=h.out k E.out;have C:Uq k k.drew:=uR.drew;clear hq p t A h;go_upto_region 5 with (fail)
 refine bH x C fun d=>?_;refine tkS [0,1] d ?_;refine tk1 2 fun K c=>?_;go_simp;refine (phz _).mono ?_;rintro e ab ⟨rfl,hq⟩;have m:=C.trans hq;clear hq;go_wp2_with fail;refine tkK c (x.out _ m) fun d=>?_;clear c K;refine tk1 3 fun K c=>?_;go_simp;refine (pih _).mono ?_;rintro e aa ⟨rfl,rfl⟩;go_wp2_with fail;refine tkK c (x.out _ m) fun d=>?_;clear c K;refine tkY 4 d ?_;refine tkD ?_;go_wp2;go_ret;refine ⟨y,?_,?_,rfl,O.out.trans m⟩
 · show _=_;rw [R.out];exact (pbn n).symm
 · have:=pbn n;show _<=(Lib.itoa (n:Int)).length;rw [this];exact Q
theorem pct (n:Nat) (w) (d:n<9223372036854775808):Calls prog 62 #[n] w (MkS (Lib.itoa (n:Int)) w):=by
 go_in;go_wp2_with fail;refine (prk n w d).mono ?_;rintro e k ⟨N,h,rfl,g⟩;obtain ⟨RV,a⟩:=az (ratV N);have c:=ah (pnm N n k h.out d);rw [<-a] at c ⊢;clear a;go_wp2_with fail;refine c.out.mono ?_;rintro e o ⟨y,j,m,rfl,f⟩;go_wp2;go_ret;exact ⟨y,j,m,rfl,g.trans f⟩
def pbp (ws:List Nat) (k j:Nat):List Nat:=((List.range k).flatMap fun i=>List.replicate (ws.getD i 0) (gP (secN i))) ++ List.replicate j (gP (secN k))
theorem pgz (ws k j):pbp ws k (j+1)=pbp ws k j ++ [gP (secN k)]:=by
 unfold pbp;rw [uf,xG]
theorem pej {ws k x} (h:ws[k]? =some x):pbp ws (k+1) 0=pbp ws k x:=by
 have e:ws.getD k 0=x:=by rw [xx,h];rfl
 unfold pbp;rw [List.range_succ,List.flatMap_append,zg,yl,<-e];simp
theorem pdZ:∀ ws k j,k<=ws.length->(pbp ws k j).length=(ws.take k).sum+j
 | ws,0,j,_=>by simp [pbp]
 | ws,k+1,j,h=>by
  obtain ⟨x,a⟩:∃ x,ws[k]? =some x:=⟨_,xd (by omega)⟩
  have e:pbp ws (k+1) j=pbp ws (k+1) 0 ++ List.replicate j (gP (secN (k+1))):=by simp [pbp]
  rw [e,pej a,xr,pdZ ws k x (by omega),paS a]
  simp
theorem pd0 (ws):pbp ws ws.length 0=pa4 ws:=by simp [pbp,pa4]
theorem paZ (wr v l) (k x:Nat) (g:l.length=k) (c:wr.ownsRow 0 3 1 v k (pah l)) (f:k<=1000000) :
 ∃ a w',(Builtin.append_ #[22,22] 22 #[v,.slice (some ⟨wr.heap.size,0,none⟩) 1 1]).run prog (wr.alloc (.cells #[x] 3))=.ok a w'/\w'.ownsRow 0 3 1 a (k+1) (pah (l ++ [x]))/\Upd (foot v) (foot a) wr w':=by
 obtain ⟨a,w',h1,d,e⟩:=pa9 wr v k (pah l) (x:Int) c (by omega);exact ⟨a,w',h1,by rw [paV];exact d,e⟩
theorem pnn (v ws w) (f:WsOk ws) (h:pbN w v ws) :
 Calls prog 133 #[v] w (fun e w'=>∃ u,Hid (w'.ownsRow 0 3 1 u (pa4 ws).length (pah (pa4 ws)))/\e=.returned u/\Hid (Upd [] (foot u) w w')):=by
 obtain ⟨Z,Y,rfl,h1,h2,K⟩:=h;have R:=ah K;have X:=ah f;have W:=ah (pbo ws);have G:=f.sum.2;have J:=ah (pdZ ws);obtain ⟨n,q⟩:=az (ws.length);have o:=ah q;have S:=ah G;have ab:n<=4:=by rw [q];exact f.2.1
 rw [<-q] at h1 ⊢;clear q K f G;go_in;go_wp2;go_loopw [3,4,5] (fun u i _ wr=>∃ k:Nat,i=.int .i64 (k:Int)/\k<=n/\Hid (wr.ownsRow 0 3 1 u (ws.take k).sum (pah (pbp ws k 0)))/\Hid (Upd [] (foot u) w wr)) (fun _ i _ _=>n - (intOf i).toNat)
 case atStart=>exact ⟨0,rfl,xu _,(by show World.ownsRow _ _ _ _ _ _ _;exact x9 _ _ _ _),Upd.refl _ _⟩
 case round =>
  obtain ⟨k,rfl,hk,m,y⟩:=hrel;by_cases N:k<n
  · obtain ⟨x,r⟩:∃ x,ws[k]? =some x:=⟨_,xd (by rw [<-o.out];exact N)⟩
    have ac:=X.out.2.2 x (xt r);have z:=ah r;have i0:(0:Int)<=(k:Int):=by omega
    have i1:(k:Int)<(n:Int):=by omega
    clear r;go_wp2;go_loopw [3,5] (fun u i wr=>∃ j:Nat,i=.int .i64 (j:Int)/\j<=x/\Hid (wr.ownsRow 0 3 1 u ((ws.take k).sum+j) (pah (pbp ws k j)))/\Hid (Upd [] (foot u) w wr)) (fun _ i _=>x - (intOf i).toNat)
    case atStart=>exact ⟨0,rfl,xu _,m.out,y.out⟩
    case round =>
     obtain ⟨j,rfl,hj,d,c⟩:=hrel;have E:Uq w wr:=c.out.mono (fun _ h=>h) (fun _ h=>absurd h (by simp));obtain ⟨g,rfl,hg,H,T,M⟩:=(R.out.upd E) k _ (paW z.out);dsimp only [memC] at H T M;clear H E;by_cases aa:j<x
     · obtain ⟨p,t⟩:=az (gP (secN k));rw [<-t] at M;have C:=J.out k j (by rw [<-o.out];omega);have P:=W.out k;obtain ⟨U,w',B,A,D⟩:=paZ wr u3 (pbp ws k j) ((ws.take k).sum+j) p C d.out (by have:=S.out;omega);have Q:=ah B;have a:Hid (w'.ownsRow 0 3 1 U ((ws.take k).sum+(j+1)) (pah (pbp ws k (j+1)))):=by
        show World.ownsRow _ _ _ _ _ _ _;rw [pgz,<-t];exact A
       have O:=ah (c.out.trans D);have x1:(j:Int)<(x:Int):=by omega
       clear C P B A D t d c;go_wp2_with (refine bN Q ?_)
       exact ⟨⟨j+1,by go_num,by omega,a.out,O.out⟩,by simp [intOf];omega⟩
     · obtain rfl:j=x:=by omega
       have a:Hid (wr.ownsRow 0 3 1 u3 (ws.take (k+1)).sum (pah (pbp ws (k+1) 0))):=by
        show World.ownsRow _ _ _ _ _ _ _;rw [paS z.out,pej z.out];exact d.out
       clear d m y;go_wp2_with fail;exact ⟨⟨k+1,by go_num,by omega,a.out,c.out⟩,by simp [intOf];omega⟩
  · obtain rfl:k=n:=by omega
    have F:=J.out k 0 (by rw [o.out];exact xj _);have a:Hid (wr.ownsRow 0 3 1 u3 (pa4 ws).length (pah (pa4 ws))):=by
     show World.ownsRow _ _ _ _ _ _ _;rw [<-pd0,<-o.out,F];exact m.out
    clear m F;go_wp2;go_ret;exact ⟨_,a,rfl,y⟩
theorem pno (s k):pds s (k+1)=pds s k ++ [pd3 (psU k s)]:=by simp [pds,List.range_succ]
theorem pjE (d) (a:Nat) (w) (N:d.size<=1000000) (S:a<=1000) :
 Calls prog 61 #[.string d,a] w (fun e w'=>∃ u,Hid (w'.ownsRow 0 3 1 u a (pah (pds (bs d) a)))/\e=.returned u/\Hid (Upd [] (foot u) w w')):=by
 have M:(ByteArray.mk #[99,111,101,102,102,105,99,105,101,110,116,32]).size=12:=rfl;have K:(ByteArray.mk #[32,111,102,32]).size=4:=rfl;go_in;go_wp2;go_loopw [5,6] (fun u i wr=>∃ k:Nat,i=.int .i64 (k:Int)/\k<=a/\Hid (wr.ownsRow 0 3 1 u k (pah (pds (bs d) k)))/\Hid (Upd [] (foot u) w wr)) (fun _ i _=>a - (intOf i).toNat)
 case atStart=>exact ⟨0,rfl,xu _,(by show World.ownsRow _ _ _ _ _ _ _;exact x9 _ _ _ _),Upd.refl _ _⟩
 case round =>
  obtain ⟨k,rfl,O,f,o⟩:=hrel;by_cases P:k<a
  · have Q:(k:Int)<(a:Int):=by omega
    have B:(Lib.itoa (k:Int)).length<=20:=itoa_len (k:Int) (by unfold pab;omega);go_wp2_with fail;refine (pct k wr (by omega)).mono ?_;rintro e F ⟨y,A,H,rfl,m⟩;have x:=paj f.out (fun j p=>m.block j (pag f.out j p) (by simp));have n:=ah x;have v:=ah (o.out.trans (m.mono (fun _ h=>absurd h (by simp)) (fun _ h=>.inr h)));clear x m f o;go_wp2_with fail;refine (pbS _ F (by simp [ByteArray.size_append];omega)).mono ?_;rintro e G ⟨c,z,R,rfl,g⟩;obtain ⟨J,w',r,q,t⟩:=paZ G u5 (pds (bs d) k) k c (pcZ _ _) (paj n.out (fun j p=>g.block j (pag n.out j p) (by simp))) (by omega);have E:=ah r;have C:Hid (w'.ownsRow 0 3 1 J (k+1) (pah (pds (bs d) (k+1)))):=by
     show World.ownsRow _ _ _ _ _ _ _;have e:pd3 (psU k (bs d))=c:=by
      rw [z.out];simp only [pae,A.out];rfl
     rw [pno,e];exact q
    have D:=ah ((v.out.trans (g.mono (fun _ h=>absurd h (by simp)) (fun _ h=>.inr h))).trans t);clear r q t g n v z A H B;go_wp2_with (refine bN E ?_)
    exact ⟨⟨k+1,by go_num,by omega,C.out,D.out⟩,by simp [intOf];omega⟩
  · obtain rfl:k=a:=by omega
    go_wp2;go_ret;exact ⟨_,f,rfl,o⟩
theorem pb6 (u:Nat) (w) (k:u<9223372036854775808):Calls prog 202 #[u] w (MkS (Lib.itoa (u:Int)) w):=by
 go_in;go_wp2_with fail;refine (pbs u w (by omega)).mono ?_;rintro e g ⟨a,h,rfl,d⟩;go_wp2_with fail;refine (pdf u g a h.out (by omega)).mono ?_;rintro e m ⟨y,f,j,rfl,c⟩;go_wp2;go_ret;refine ⟨y,?_,?_,rfl,d.trans c⟩
 · show _=_;rw [f.out];exact (pbn u).symm
 · have:=pbn u;show _<=(Lib.itoa (u:Int)).length;rw [this];exact j
theorem pfm (u:Nat) (h:u<9223372036854775808):(Lib.itoa (u:Int)).length<=20:=itoa_len (u:Int) (by unfold pab;omega)
theorem prl (key idx:Nat) (w) (m:key<9223372036854775808) (k:idx<9223372036854775808):Calls prog 242 #[key,idx] w (Mk (.agg (byteVals (padB key idx)).toArray) w):=by
 have F:=pfm key m;have K:=pfm idx k;have o:AB 60 (w.alloc (.cells (byteVals zero32).toArray 60)) w.heap.size zero32:=xi _ _;have t:Uq w (w.alloc (.cells (byteVals zero32).toArray 60)):=uR.alloc _;have n:=ah o;have h:=ah (pb6 key (w.alloc (.cells (byteVals zero32).toArray 60)) m);clear o;go_in;go_wp2_with fail;refine h.out.mono ?_;rintro e r ⟨y,x,G,rfl,hq⟩;have p:=t.trans hq;have g:=ah (n.out.upd hq);clear hq n h;go_wp2_with fail;refine (pb6 idx r k).mono ?_;rintro e v ⟨z,A,J,rfl,hq⟩;have u:=p.trans hq;have d:=ah (g.out.upd hq);have E:(ByteArray.mk #[98,111,120,47]).size=4:=rfl;have C:(ByteArray.mk #[47]).size=1:=rfl;clear hq g p;go_wp2_with fail;refine (phW _ v (by simp [ByteArray.size_append];omega)).mono ?_;rintro e H ⟨rfl,hq⟩;have B:=u.trans hq;have j:=ah (d.out.upd hq);obtain ⟨D,a⟩:=az (sha (bs (⟨#[98,111,120,47]⟩ ++ y ++ ⟨#[47]⟩ ++ z)));have f:D.length=32:=by rw [a];exact pbP _
 have c:=ah f;have q:Hid (D=padB key idx):=by
  show _=_;rw [a];simp only [pae,x.out,A.out];rfl
 rw [<-a];clear hq a f d;go_wp2_with (refine yH rfl 60 _ _ rfl w.heap.size (byteVals D).toArray rfl rfl _ _ j.out (hashInfo c.out) (by simp [byteVals,c.out,zero32]) (hashOne _) ?_)
 refine xI (yX rfl _ _ w.heap.size _ (byteVals D).toArray _ _ rfl (j.out.setRow D) underlying60 rfl (hashInfo c.out)) rfl ⟨?_,B.setRowNew (by omega) _⟩;rw [q.out]
theorem pfn (v l w) (h:Sl w v l) (f:∀ x∈l,memN x) (o:l.length<=1000):Calls prog 186 #[v] w (Ret (.bool true) w):=by
 obtain ⟨r,t,rfl,h1,A⟩:=h.form;have g:=ah h;have p:=ah f;obtain ⟨n,a⟩:=az (l.length);have q:=ah a;rw [<-a] at h1 o;rw [<-a] at g ⊢;clear h f a;go_in;go_wp2;go_loopw [3,4] (fun i _ wr=>∃ k:Nat,i=.int .i64 (k:Int)/\k<=n/\wr=w) (fun i _ _=>n - (intOf i).toNat)
 case atStart=>exact ⟨0,rfl,xu _,(by first | trivial | rfl)⟩
 case round =>
  obtain ⟨k,rfl,u,rfl⟩:=hrel;by_cases m:k<n
  · obtain ⟨x,c⟩:∃ x,l[k]? =some x:=⟨_,xd (by rw [<-q.out];exact m)⟩
    obtain ⟨b,rfl,B⟩:=g.out.get c;have d:=p.out x (xt c);have j:=ah d;have z:(0:Int)<=(k:Int):=by omega
    have y:(k:Int)<(n:Int):=by omega
    clear c d;go_wp2_with fail;refine (pcX (x:Int) true _ (by have:=j.out.2.1;unfold Pn at this;unfold pab;omega) ((pbG x).2 j.out)).mono ?_;rintro e w' ⟨rfl,rfl⟩;go_wp2_with fail;exact ⟨⟨k+1,by go_num,by omega,(by first | trivial | rfl)⟩,by simp [intOf];omega⟩
  · go_wp2;go_ret;exact ⟨rfl,rfl⟩
theorem ppK {l:List Nat} {k c} (x) (h:l[k]? =some c):valN (l.drop k) x=(valN (l.drop (k+1)) x * x % Qn+c) % Qn:=by
 have d:=(xe.1 h).1;have e:=xZ d;have a:l[k]=c:=(xe.1 h).2;rw [e,a];rfl
theorem phA (v l) (x:Nat) (w) (h:Sl w v l) (E:∀ c∈l,c<9223372036854775808) (O:l.length<=1000) (N:x<9223372036854775808) :
 Calls prog 188 #[v,x] w (fun e w'=>∃ r,Hid (r=valN l x)/\r<1152921504606845789/\e=.returned (.int .i64 (r:Int))/\Uq w w'):=by
 obtain ⟨X,Y,rfl,h1,h2⟩:=h.form;have G:=ah h;have U:=ah E;obtain ⟨n,g⟩:=az (l.length);have F:=ah g;rw [<-g] at h1 O;rw [<-g] at G ⊢;have ad:x<=9223372036854775807:=by omega
 clear h E g N;go_in;go_wp2;go_loopw [5,6] (fun o i wr=>∃ (k r:Nat) (z:Int),o=.int .i64 (r:Int)/\i=.int .i64 z/\z=(k:Int) - 1/\k<=n/\r<1152921504606845789/\Hid (r=valN (l.drop k) x)/\Hid (Uq w wr)) (fun _ i _=>(intOf i+1).toNat)
 case atStart=>exact ⟨n,0,(n:Int) - 1,rfl,rfl,rfl,xj _,by omega,by show _=_;rw [F.out,List.drop_length];rfl,Upd.refl _ _⟩
 case round =>
  obtain ⟨k,r,z,rfl,rfl,S,Z,Q,A,B⟩:=hrel;by_cases h0:0<k
  · obtain ⟨m,rfl⟩:∃ m,k=m+1:=⟨k - 1,by omega⟩
    obtain rfl:z=(m:Int):=by omega
    obtain ⟨c,j⟩:∃ c,l[m]? =some c:=⟨_,xd (by rw [<-F.out];omega)⟩
    have M:=ah (G.out.upd B.out);obtain ⟨b,rfl,t⟩:=M.out.get j;have af:=U.out c (xt j);have R:=ah (ppK x j);have H:=ah t;have D:b<wr.heap.size:=x6 _ _ t;have C:Hid (∀ W,Uq wr W->W.cell? ⟨b,m,none⟩=some (.int .i64 (c:Int))):=fun W u=>(u.cell (p:=⟨b,m,none⟩) D (by simp)).trans H.out;have y:Uq wr wr.drew:=uR.drew;have i0:(0:Int)<=(m:Int):=by omega
    have i1:(m:Int)<(n:Int):=by omega
    clear j t S D;go_upto_region 5 with (fail)
    refine bH C y fun f=>?_;refine tkS [0,1,3,4,5,6] f ?_;refine tk1 2 fun K d=>?_;go_simp;refine (ppu r x _ (by omega) (by omega)).mono ?_;rintro e ac ⟨a,T,ha,rfl,rfl⟩;go_wp2_with fail;refine tkK d (C.out _ y) fun f=>?_;clear d K;refine tk1 7 fun K d=>?_;go_simp;refine (pkY a c _ (by omega) (by omega)).mono ?_;rintro e aa ⟨q,P,hq,rfl,rfl⟩;go_wp2_with fail;refine tkK d (C.out _ y) fun f=>?_;clear d K;refine tkY 8 f ?_;refine tkD ?_;go_wp2_with fail;refine ⟨⟨m,q,(m:Int) - 1,rfl,rfl,rfl,by omega,hq,?_,B.out.drew⟩,(by first | (simp [intOf];done) | (simp [intOf];omega))⟩;show _=_;rw [R.out,P.out,T.out,A.out]
  · obtain rfl:k=0:=by omega
    have ab:¬ (0:Int)<=z:=by omega
    have J:Hid (r=valN l x):=A.out;clear A;go_wp2;go_ret;exact ⟨r,J,Q,rfl,B.out⟩
end Go.Proofs.YtkhjolbbpdaplaaGreatDoor
