/- entry.Text, entry.Verify, entry.Hash, entry.Print and what follows. -/
import Derived.Test.YtkhjolbbpdaplaaGreatDoorHAH
namespace Go.Proofs.YtkhjolbbpdaplaaGreatDoor
set_option maxHeartbeats 4000000
open Go.RowKit Go.Proofs.Tryz
set_option maxRecDepth 100000
abbrev zZ:=@Array.getElem?_modify
theorem pi2 {x} (c:x.ok):(pcg x).length<=400+x.draw.size:=by
 have h:=pcP c;have d:=piN (a:=x.r) (b:=x.s) c.2.2.2.2.2.2.1 c.2.2.2.2.2.2.2;unfold pcg;rw [xr,xF];omega
theorem pi3 (x a b) (d:bs a=pb4 x.r x.s) (c:bs b=pa1 x):Lib.join ([a,b].map bs) [32]=pcg x:=by
 simp only [zr,zU,d,c,Lib.join,pcg];simp [List.intercalate]
theorem RcAt.two {w g x} (h:RcAt w g x) (a:x.ok):w.cell? ⟨g,100,none⟩=some (.int .i64 x.r)/\w.cell? ⟨g,101,none⟩=some (.int .i64 x.s)/\w.rangeAt g 0 (rcV x):=⟨(h.sig a).1,(h.sig a).2,h.all⟩
theorem pi4 (w:World) (x C) (a:C=(rcV x).toArray):RcAt (w.alloc (.cells C 62)) w.heap.size x:=by
 rw [a];exact xi w _
theorem pm1 (x) (d:x.ok) (O:x.draw.size<=1000000000) (w) (n:Tabs w):Calls prog 42 #[.agg (rcV x).toArray] w (MkS (pcg x) w):=by
 have h:=(pi4 w x _ rfl).upd uR.drew;have k:Uq w (w.alloc (.cells (rcV x).toArray 62)).drew:=(uR.alloc _).drew;obtain ⟨C,A⟩:=az ((rcV x).toArray);rw [<-A] at h k ⊢;clear A;obtain ⟨_,_,_,_,_,_,M,F⟩:=id d;have E:=pdy d;have B:=underlying62;have f:=ah (fun (W:World) (r:RcAt W w.heap.size x)=>r.two d);obtain ⟨Z,Q,U⟩:=h.two d;have T:=pcP d;go_in;go_wp2_with fail;refine bH f h fun c=>?_;refine tkS [0,1] c ?_;refine tkT 3 c ?_ (y:=(zq (by rfl) _ _ rfl _ _ rfl (rcV x) _ (fun w D=>D.2.2) B rfl E));refine tk1 2 fun K a=>?_;go_simp;refine (plG x.r x.s _ M F (n.upd k)).mono ?_;rintro e S ⟨j,q,X,rfl,hq⟩;have t:=h.upd hq;have u:=k.trans hq;clear hq;go_wp2_with fail;refine tkK a (f.out _ t) fun c=>?_;clear a K;refine tk1 4 fun K a=>?_;go_simp;refine (plU x d O _ (n.upd u)).mono ?_;rintro e G ⟨g,o,R,rfl,hq⟩;have m:=t.upd hq;have H:=u.trans hq;clear hq;go_wp2_with fail;refine tkK a (f.out _ m) fun c=>?_;clear a K;refine tk1 5 fun K a=>?_;go_simp;refine tkK a (f.out _ (m.upd ((Upd.refl [] _).alloc _))) fun c=>?_;clear a K;refine tk1 6 fun K a=>?_;go_simp;refine (plT _ 2 [j,g] _ (pcQ G [j,g] 9) (xj 2) (by show 2<=1000;omega) (by rw [pi3 x j g q.out o.out];exact xB (pi2 d) (by omega))).mono ?_;rintro e Y ⟨z,J,v,rfl,hq⟩;have P:=m.upd (((Upd.refl [] _).alloc _).trans hq);have N:=H.trans (((Upd.refl [] _).alloc _).trans hq);clear hq;go_wp2_with fail;refine tkK a (f.out _ P) fun c=>?_;clear a K;refine tkY 7 c ?_;refine tkD ?_;go_wp2;go_ret;have p:=J.out;rw [pi3 x j g q.out o.out] at p v;exact ⟨z,p,v,rfl,N⟩
theorem pi5 (p x) (u:pab p) (c:x.ok) (F:x.draw.size<=1000000000) (w) (j:Tabs w):Calls prog 10 #[.int .i64 p,.agg (rcV x).toArray] w (fun e w'=>e=.returned (.bool (verB p (pa1 x) x.r x.s))/\Uq w w'):=by
 have f:=(pi4 w x _ rfl).upd uR.drew;have g:Uq w (w.alloc (.cells (rcV x).toArray 62)).drew:=(uR.alloc _).drew;obtain ⟨C,n⟩:=az ((rcV x).toArray);rw [<-n] at f g ⊢;clear n;obtain ⟨_,_,_,_,_,_,D,z⟩:=id c;have v:=pdy c;have o:=underlying62;have h:=ah (fun (W:World) (r:RcAt W w.heap.size x)=>r.two c);obtain ⟨P,G,M⟩:=f.two c;have J:=pcP c;go_in;go_wp2_with fail;refine bH h f fun a=>?_;refine tkY 0 a ?_;refine tkT 1 a ?_ (y:=(zq (by rfl) _ _ rfl _ _ rfl (rcV x) _ (fun w q=>q.2.2) o rfl v));refine tkS [3,4] a ?_;refine tk1 2 fun K d=>?_;go_simp;refine (plU x c F _ (j.upd g)).mono ?_;rintro e H ⟨B,t,O,rfl,hq⟩;have k:=f.upd hq;have m:=g.trans hq;clear hq;go_wp2_with fail;refine tkK d (h.out _ k) fun a=>?_;clear d K;refine tk1 5 fun K d=>?_;go_simp;refine (poG p B x.r x.s _ _ u D z (by omega) (j.upd m) rfl).mono ?_;rintro e N ⟨rfl,hq⟩;have E:=k.upd hq;have A:=m.trans hq;clear hq;go_wp2_with fail;refine tkK d (h.out _ E) fun a=>?_;clear d K;refine tkY 6 a ?_;refine tkD ?_;go_wp2;go_ret;exact ⟨by rw [t.out];rfl,A⟩
theorem rcSz {x} (h:x.ok):(prog.info? 62).map (·.size)=some (rcV x).toArray.size:=by
 rw [pdy h];simp
theorem psp {x} (h:x.ok) (r s):((rcV x).set 100 (.int .i64 r)).set 101 (.int .i64 s)=rcV { x with r:=r,s:=s }:=by
 obtain ⟨_,_,_,h1,d,k,_⟩:=h;have f:(byteVals x.out).length=32:=by rw [pak,h1]
 have j:(byteVals x.hash).length=32:=by rw [pak,d]
 have g:(byteVals x.prev).length=32:=by rw [pak,k]
 have e:∀ (r s:Int),rcV { x with r:=r,s:=s }=([.int .i64 x.kiosk,.int .i64 x.serial,.string x.draw,.int .i64 x.seen] ++ byteVals x.out ++ byteVals x.hash ++ byteVals x.prev) ++ [.int .i64 r,.int .i64 s]:=by
  intro r s;simp [rcV]
 have a:([.int .i64 x.kiosk,.int .i64 x.serial,.string x.draw,.int .i64 x.seen] ++ byteVals x.out ++ byteVals x.hash ++ byteVals x.prev:List Value).length=100:=by simp [f,j,g]
 have c:=e x.r x.s;rw [show ({ x with r:=x.r,s:=x.s }:Rc)=x from rfl] at c;rw [c,e r s,ya _ _ (by omega),a,ya _ _ (by omega),a];rfl
def pi6 (k s n:Int) (d:ByteArray) (a b c:List UInt8) (x:Int):Rc :=
 ⟨k,s,n,d,a,b,c,(gP (nonceN (expN x) (pa1 ⟨k,s,n,d,a,b,c,0,0⟩)):Int),(sWith (expN x) (nonceN (expN x) (pa1 ⟨k,s,n,d,a,b,c,0,0⟩)) (pa1 ⟨k,s,n,d,a,b,c,0,0⟩):Int)⟩
theorem RcAt.sigs {w g x} (h:RcAt w g x) (a:x.ok) (r s):RcAt ((w.setCell ⟨g,100,none⟩ (.int .i64 r)).setCell ⟨g,101,none⟩ (.int .i64 s)) g { x with r:=r,s:=s }:=by
 have h1:=xg _ g 101 _ _ (.int .i64 s) (xg w g 100 _ _ (.int .i64 r) h);unfold RcAt;rw [h1,<-psp a r s];simp
theorem RcAt.frozen {w g x} (h:RcAt w g x) (j):w.frozen? ⟨g,j,none⟩=false:=xp _ _ _ _ _ h
theorem RcAt.setRow {w g x} (h:RcAt w g x) (y):RcAt (w.setRow g (rcV y).toArray) g y:=xz w g _ _ _ _ h
theorem pa7 {w:World} {g L j o} (h:w.heap[g]? =some o) (n:g≠L) (v):(w.setCell ⟨L,j,none⟩ v).heap[g]? =some o:=by
 rw [((Upd.refl [L] w).setCell (p:=⟨L,j,none⟩) (by simp) v).block g (xq.1 h).1 (by simpa using n)];exact h

def RdAt (w:World) (g:Nat) (rest:ByteArray) (wrong:Bool):Prop:=w.heap[g]? =some (.cells #[.string rest,.bool wrong] 107 (0,0))
theorem RdAt.upd {w w' g r q} (h:RdAt w g r q) (u:Uq w w'):RdAt w' g r q:=paa h u
theorem RdAt.cells {w g r q} (h:RdAt w g r q):w.cell? ⟨g,0,none⟩=some (.string r)/\w.cell? ⟨g,1,none⟩=some (.bool q)/\w.frozen? ⟨g,0,none⟩=false/\w.frozen? ⟨g,1,none⟩=false :=
 ⟨by rw [xa _ _ _ _ _ _ h];rfl,by rw [xa _ _ _ _ _ _ h];rfl,xp _ _ _ _ _ h,xp _ _ _ _ _ h⟩
theorem RdAt.set {w g r q} (h:RdAt w g r q) (a c):RdAt ((w.setCell ⟨g,0,none⟩ (.string a)).setCell ⟨g,1,none⟩ (.bool c)) g a c :=
 xg _ g 1 _ _ (.bool c) (xg w g 0 _ _ (.string a) h)
theorem RdAt.setQ {w g r q} (h:RdAt w g r q) (a):RdAt (w.setCell ⟨g,1,none⟩ (.bool a)) g r a :=
 xg _ g 1 _ _ (.bool a) h
theorem pc7 (s c w) (f:s.size<=4000000000) (a:Tabs w) :
 Calls prog 173 #[.string s,.string (ByteArray.mk #[c])] w (fun e w'=>∃ l r b,Hid (bs l=(Lib.cut (bs s) [c]).1)/\Hid (bs r=(Lib.cut (bs s) [c]).2.1)/\Hid (b=(Lib.cut (bs s) [c]).2.2)/\l.size<=s.size/\r.size<=s.size/\e=.returned (.tuple #[.string l,.string r,.bool b])/\Uq w w'):=by
 obtain ⟨m,d⟩:=a.mc;refine (Tryz.strings_Cut s (ByteArray.mk #[c]) m w (by omega) d).mono ?_;rintro e w' ⟨rfl,n,rfl⟩;have h:(Lib.cut (bs s) [c]).1.length<=s.size/\(Lib.cut (bs s) [c]).2.1.length<=s.size:=by
  unfold Lib.cut;split
  · simp [pac];omega
  · simp [pac]
 exact ⟨⟨(Lib.cut (bs s) [c]).1.toArray⟩,⟨(Lib.cut (bs s) [c]).2.1.toArray⟩,_,rfl,rfl,rfl,h.1,h.2,rfl,uR.drewN n⟩
def poK (c:UInt8) (g:Nat) (rest:ByteArray) (wrong:Bool) (w:World) (e:Ending) (w':World):Prop :=
 ∃ (l r:ByteArray) (q:Bool),Hid (∀ A R,c ∉ A->bs rest=A ++ c :: R->bs l=A/\bs r=R/\q=wrong)/\l.size<=rest.size/\r.size<=rest.size/\e=.returned (.string l)/\Hid (RdAt w' g r q)/\Upd [g] [] w w'
theorem Upd.wide {S a b} (h:Uq a b):Upd S [] a b:=⟨h.os,h.tape,h.output,h.size,fun i c _=>h.block i c (by simp),fun _ d=>absurd d (by simp)⟩
theorem poL (g rest m c w) (n:RdAt w g rest m) (B:rest.size<=4000000000) (x:Tabs w) :
 Calls prog 104 #[.pointer (some ⟨g,0,none⟩),.string (ByteArray.mk #[c])] w (poK c g rest m w):=by
 obtain ⟨t,o,q,v⟩:=n.cells;have z:=ah n;clear n;go_in;go_wp2_with fail;refine (pc7 rest c w B x).mono ?_;rintro e E ⟨l,r,b,C,y,D,j,h,rfl,u⟩;have h1:=z.out.upd u;clear t o q v;obtain ⟨t,o,q,v⟩:=h1.cells;have f:Hid (∀ A R,c ∉ A->bs rest=A ++ c :: R->bs l=A/\bs r=R/\b=true):=by
  intro A R a e;rw [C.out,y.out,D.out,e,pbH c A R a];exact ⟨rfl,rfl,rfl⟩
 have k:=ah (Upd.wide (S:=[g]) u)
 cases m <;> cases b
 · have d:=ah (h1.set r true);clear h1;go_wp2;go_ret;exact ⟨l,r,true,fun A R a e=>(by have:=(f.out A R a e).2.2;cases this),j,h,rfl,d.out,(k.out.setCell (p:=⟨g,0,none⟩) (by simp) _).setCell (p:=⟨g,1,none⟩) (by simp) _⟩
 · have d:=ah (h1.set r false);clear h1;go_wp2;go_ret;exact ⟨l,r,false,fun A R a e=>⟨(f.out A R a e).1,(f.out A R a e).2.1,rfl⟩,j,h,rfl,d.out,(k.out.setCell (p:=⟨g,0,none⟩) (by simp) _).setCell (p:=⟨g,1,none⟩) (by simp) _⟩
 · have d:=ah (h1.set r true);clear h1;go_wp2;go_ret;exact ⟨l,r,true,fun A R a e=>⟨(f.out A R a e).1,(f.out A R a e).2.1,rfl⟩,j,h,rfl,d.out,(k.out.setCell (p:=⟨g,0,none⟩) (by simp) _).setCell (p:=⟨g,1,none⟩) (by simp) _⟩
 · have d:=ah (h1.set r true);clear h1;go_wp2;go_ret;exact ⟨l,r,true,fun A R a e=>⟨(f.out A R a e).1,(f.out A R a e).2.1,rfl⟩,j,h,rfl,d.out,(k.out.setCell (p:=⟨g,0,none⟩) (by simp) _).setCell (p:=⟨g,1,none⟩) (by simp) _⟩
theorem pfD (g rest a w) (f:RdAt w g rest a) (m:rest.size<=4000000000) (c:Tabs w) :
 Calls prog 38 #[.pointer (some ⟨g,0,none⟩)] w (poK 32 g rest a w):=by
 go_in;go_wp2_with fail;refine (poL g rest a 32 w f m c).mono ?_;rintro e o ⟨l,r,q,j,h,d,rfl,k,n⟩;go_wp2;go_ret;exact ⟨l,r,q,j,h,d,rfl,k,n⟩
theorem Upd.own2 {g a b c} (h:Uq a b) (k:Upd [g] [] b c) (f:a.heap.size<=g):Uq a c :=
 ⟨k.os.trans h.os,k.tape.trans h.tape,k.output.trans h.output,xB h.size k.size,fun i d _=>(k.block i (xA d h.size) (by simp;omega)).trans (h.block i d (by simp)),fun _ e=>absurd e (by simp)⟩
theorem Upd.then2 {g a b c} (h:Upd [g] [] a b) (k:Uq b c):Upd [g] [] a c :=
 ⟨k.os.trans h.os,k.tape.trans h.tape,k.output.trans h.output,xB h.size k.size,fun i d e=>(k.block i (xA d h.size) (by simp)).trans (h.block i d e),fun _ f=>absurd f (by simp)⟩
theorem Upd.first2 {g a b c} (h:Uq a b) (k:Upd [g] [] b c):Upd [g] [] a c :=
 ⟨k.os.trans h.os,k.tape.trans h.tape,k.output.trans h.output,xB h.size k.size,fun i d e=>(k.block i (xA d h.size) e).trans (h.block i d (by simp)),fun _ f=>absurd f (by simp)⟩
theorem pfE {w w' B g o} (h:w.heap[B]? =some o) (u:Upd [g] [] w w') (n:B≠g):w'.heap[B]? =some o:=by
 rw [u.block _ (xq.1 h).1 (by simpa using n)];exact h
theorem Upd.setOld {g a b} (h:Upd [g] [] a b) (j v):Upd [g] [] a (b.setCell ⟨g,j,none⟩ v):=h.setCell (p:=⟨g,j,none⟩) (by simp) v
def psq (g:Nat) (rest:ByteArray) (wrong:Bool) (w:World) (e:Ending) (w':World):Prop :=
 ∃ (n:Int) (r:ByteArray) (q:Bool),Hid (∀ k R,pab k->bs rest=Lib.itoa k ++ 32 :: R->n=k/\bs r=R/\q=wrong)/\pab n/\r.size<=rest.size/\e=.returned (.int .i64 n)/\Hid (RdAt w' g r q)/\Upd [g] [] w w'
theorem pgg (g rest j w y) (h0:Uq y w) (Q:y.heap.size<=g) (G:RdAt w g rest j) (M:rest.size<=4000000000) (A:Tabs y) :
 Calls prog 39 #[.pointer (some ⟨g,0,none⟩)] w (psq g rest j w):=by
 go_in;go_wp2_with fail;refine (pfD g rest j w G M (A.upd h0)).mono ?_;rintro e C ⟨l,r,q,H,U,t,rfl,D,z⟩;have h1:=h0.own2 z Q;have F:=ah z;clear z G;go_wp2_with fail;by_cases d:∃ v,Lib.atoiAll (bs l)=.ok v
 · obtain ⟨v,d⟩:=d;have n:pab v:=yU d;have o:=ah d;clear d;refine (pco l v C (by omega) o.out).mono ?_;rintro e P ⟨rfl,c⟩;have a:=D.out.upd c;have m:=ah (F.out.then2 c);obtain ⟨S,K,O,T⟩:=a.cells;have p:Hid (∀ k R,pab k->bs rest=Lib.itoa k ++ 32 :: R->v=k/\bs r=R/\q=j):=by
    intro k R x e;obtain ⟨u,E,J⟩:=H.out _ R (itoa_no32 k) e;refine ⟨?_,E,J⟩;have h:=o.out;rw [u,paI k x] at h;injection h with h;exact h.symm
   clear c h1
   cases q
   · have f:=ah (a.setQ false);clear a;go_wp2;go_ret;exact ⟨v,r,false,p,n,t,rfl,f,m.out.setOld 1 _⟩
   · have f:=ah (a.setQ true);clear a;go_wp2;go_ret;exact ⟨v,r,true,p,n,t,rfl,f,m.out.setOld 1 _⟩
 · have B:∀ v,Lib.atoiAll (bs l)≠.ok v:=fun v e=>d ⟨v,e⟩;have o:=ah B;clear d B;refine (pbX l C (by omega) o.out (A.upd h1)).mono ?_;rintro e P ⟨v,N,rfl,n,c⟩;have a:=D.out.upd c;have m:=ah (F.out.then2 c);obtain ⟨S,K,O,T⟩:=a.cells;have p:Hid (∀ k R,pab k->bs rest=Lib.itoa k ++ 32 :: R->v=k/\bs r=R/\true=j):=by
    intro k R x e;obtain ⟨u,E,J⟩:=H.out _ R (itoa_no32 k) e;exact absurd (by rw [u];exact paI k x) (o.out k)
   have f:=ah (a.setQ true);clear c h1 a
   cases q
   · go_wp2;go_ret;exact ⟨v,r,true,p,n,t,rfl,f,m.out.setOld 1 _⟩
   · go_wp2;go_ret;exact ⟨v,r,true,p,n,t,rfl,f,m.out.setOld 1 _⟩
def ptB (g:Nat) (rest:ByteArray) (wrong:Bool) (w:World) (e:Ending) (w':World):Prop :=
 ∃ (a b:Int) (r:ByteArray) (q:Bool),Hid (∀ x y R,pab x->pab y->bs rest=pb4 x y ++ 32 :: R->a=x/\b=y/\bs r=R/\q=wrong)/\pab a/\pab b/\r.size<=rest.size/\e=.returned (.agg #[a,b])/\Hid (RdAt w' g r q)/\Upd [g] [] w w'
theorem pqZ (g rest f w u) (h0:Uq u w) (X:u.heap.size<=g) (A:RdAt w g rest f) (Z:rest.size<=4000000000) (B:Tabs u) :
 Calls prog 41 #[.pointer (some ⟨g,0,none⟩)] w (ptB g rest f w):=by
 have d:=SigAt.start w 0 0;have C:=A.upd d.up;have af:g<w.heap.size:=(xq.1 A).1;go_in;go_wp2_with fail;refine (pfD g rest f _ C Z (B.upd (h0.trans d.up))).mono ?_;rintro e J ⟨l,r,q,HH,hl,ac,rfl,M,n⟩;have h1:=(h0.trans d.up).own2 n X;have HU:=ah (d.up.first2 n);have D:=pfE d.row n (by omega);clear A C n;go_wp2_with fail;refine (pqI l J (by omega) (B.upd h1)).mono ?_;rintro e c ⟨a,b,ok,HV,O,hb,rfl,j⟩;have G:=M.out.upd j;have z:=paa D j;have k:=SigAt.start c a b;have E:=G.upd k.up;have m:=paa z k.up;have H:=ah ((HU.out.then2 j).then2 k.up);have ad:w.heap.size<c.heap.size:=by
  have:=(xq.1 z).1;exact this
 have HF:Hid (∀ x y R,pab x->pab y->bs rest=pb4 x y ++ 32 :: R->a=x/\b=y/\bs r=R/\q=f/\ok=true):=by
  intro x y R o t e;obtain ⟨K,P,W⟩:=HH.out _ R (peN x y) e;have h:=HV.out;rw [K,piP,pmR o t] at h;simp only [yY] at h;exact ⟨h.1.symm,h.2.1.symm,P,W,h.2.2.symm⟩
 obtain ⟨k0,k1,f0,f1⟩:=E.cells;obtain ⟨c0,c1⟩:=k.cells;have S:(c.alloc (.cells #[a,b] 39)).cell? ⟨w.heap.size,0,none⟩=some (.int .i64 0):=by rw [xa _ _ _ _ _ _ m];rfl
 have Q:(c.alloc (.cells #[a,b] 39)).cell? ⟨w.heap.size,1,none⟩=some (.int .i64 0):=by rw [xa _ _ _ _ _ _ m];rfl
 have y2:(c.alloc (.cells #[a,b] 39)).frozen? ⟨w.heap.size,0,none⟩=false:=xp _ _ _ _ _ m;have y3:(c.alloc (.cells #[a,b] 39)).frozen? ⟨w.heap.size,1,none⟩=false:=xp _ _ _ _ _ m;have F:¬ g=w.heap.size:=by omega
 have n1:¬ w.heap.size=g:=by omega
 have n2:¬ g=c.heap.size:=by omega
 have n3:¬ c.heap.size=g:=by omega
 have aa:¬ w.heap.size=c.heap.size:=by omega
 have ab:¬ c.heap.size=w.heap.size:=by omega
 clear j h1 D z G
 cases q <;> cases ok
 all_goals
  go_wp2_with fail;refine xI (v:=.agg #[a,b]) (by simp [results,Tryz.results41,go_sem,S,Q]) rfl ⟨a,b,r,_,?_,O,hb,by omega,rfl,pa7 (pa7 (E.setQ _) F _) F _,((H.out.setOld 1 _).setNew (p:=⟨w.heap.size,0,none⟩) (xj _) _).setNew (p:=⟨w.heap.size,1,none⟩) (xj _) _⟩;intro x y R o t e;obtain ⟨N,T,U,p4,Y⟩:=HF.out x y R o t e
  first
   | exact absurd Y (by decide)
   | exact ⟨N,T,U,p4⟩
def psr (g:Nat) (rest:ByteArray) (wrong:Bool) (w:World) (e:Ending) (w':World):Prop :=
 ∃ (h:List UInt8) (r:ByteArray) (q:Bool),Hid (∀ k R,k.length=32->bs rest=hexL k ++ 32 :: R->h=k/\bs r=R/\q=wrong)/\h.length=32/\r.size<=rest.size/\e=.returned (.agg (byteVals h).toArray)/\Hid (RdAt w' g r q)/\Upd [g] [] w w'
theorem pal {w:World} {g L o} (h:w.heap[g]? =some o) (n:g≠L) (cs):(w.setRow L cs).heap[g]? =some o:=by
 unfold World.setRow;rw [zZ,yy (fun e=>n e.symm)];exact h
theorem wpList_store_rowAs {P e rest o a w Q} (j:o.guard=none) (d x y) (p:o.op=.store d x y)
 (g cells) (k:a.eval x=.pointer (some ⟨g,0,none⟩)) (r:a.eval y=.agg cells)
 (t c) (q:w.heap[g]? =some (.cells c t (0,0))) (m:(P.info? d).map (·.size)=some cells.size)
 (f:c.size=cells.size) (h1:cells.all (·.oneCell')=true) (w') (n:w.setRow g cells=w')
 (h:wpList P e Q rest (a.put o.dst undef) w'):wpList P e Q (o :: rest) a w:=by
 subst n;exact yH j d x y p g cells k r t c q m f h1 h
theorem pgh (g rest f w t) (h0:Uq t w) (_hg:t.heap.size<=g) (v:RdAt w g rest f) (hs:rest.size<=4000000000) (Q:Tabs t) :
 Calls prog 40 #[.pointer (some ⟨g,0,none⟩)] w (psr g rest f w):=by
 have K:AB 60 (w.alloc (.cells (byteVals zero32).toArray 60)) w.heap.size zero32:=xi _ _;have m:Uq w (w.alloc (.cells (byteVals zero32).toArray 60)):=uR.alloc _;have E:=v.upd m;have ac:g<w.heap.size:=(xq.1 v).1;have O:zero32.length=32:=by simp [zero32]
 have C:=ah O;clear O;go_in;go_wp2_with fail;refine (pfD g rest f _ E hs (Q.upd (h0.trans m))).mono ?_;rintro e z ⟨l,r,q,HH,hl,aa,rfl,X,y⟩;have HU:=ah (m.first2 y);have P:AB 60 z w.heap.size zero32:=pfE K y (by omega);clear v E y K m;go_wp2_with fail;refine (pgd l z).mono ?_;rintro e a ⟨h,ok,B,rfl,j⟩;have F:=B.out.1;have c:=ah F;have M:=X.out.upd j;have x:=P.upd j;have S:=ah (HU.out.then2 j);have ab:w.heap.size<a.heap.size:=(xq.1 x).1;have HF:Hid (∀ k R,k.length=32->bs rest=hexL k ++ 32 :: R->h=k/\bs r=R/\q=f/\ok=true):=by
  intro k R p e;obtain ⟨W,Y,e3⟩:=HH.out _ R (pbx k) e;have A:=B.out;rw [W] at A;obtain ⟨o,u⟩:=pom p A;exact ⟨o,Y,e3,u⟩
 have G:Hid (AB 60 (a.alloc (.cells (byteVals zero32).toArray 60)) a.heap.size zero32):=xi _ _;have d:Uq a ((a.alloc (.cells (byteVals zero32).toArray 60)).setRow a.heap.size (byteVals h).toArray):=(uR.alloc _).setRowNew (xj _) _;have N:=G.out.setRow h;obtain ⟨w3,n⟩:=ae ((a.alloc (.cells (byteVals zero32).toArray 60)).setRow a.heap.size (byteVals h).toArray);rw [n] at d N;have T:=ah n;have H:=M.upd d;have J:=x.upd d;have U:=ah (S.out.then2 d);obtain ⟨k0,k1,f0,f1⟩:=H.cells;have n0:g≠w.heap.size:=by omega
 have D:w.heap.size≠g:=by omega
 have n3:a.heap.size≠g:=by omega
 clear n;clear j P x M d F
 cases q <;> cases ok
 all_goals
  go_wp2_with (first | (refine wpList_store_rowAs rfl 60 _ _ rfl a.heap.size (byteVals h).toArray rfl rfl _ _ G.out (hashInfo c.out) (by simp [byteVals,c.out,C.out]) (hashOne _) w3 T.out ?_) | (refine yM rfl 60 _ rfl a.heap.size rfl _ (byteVals h).toArray _ _ (AB.other N n3 _) underlying60 rfl (hashInfo c.out) ?_) | (refine yH rfl 60 _ _ rfl w.heap.size (byteVals h).toArray rfl rfl _ _ (AB.other J D _) (hashInfo c.out) (by simp [byteVals,c.out,C.out]) (hashOne _) ?_))
  refine xI (yX rfl _ _ w.heap.size _ (byteVals h).toArray _ _ rfl ((AB.other J D _).setRow h) underlying60 rfl (hashInfo c.out)) rfl ⟨h,r,_,?_,c.out,by omega,rfl,pal (H.setQ _) n0 _,(U.out.setOld 1 _).setRowNew (xj _) _⟩;intro k R p e;obtain ⟨o,u,Z,p4⟩:=HF.out k R p e
  first
   | exact absurd p4 (by decide)
   | exact ⟨o,u,Z⟩
theorem pcC {g T}:∀ (V:List Value) (o:Nat) (w:World) (A B C:List Value),w.heap[g]? =some (.cells (A ++ (B ++ C)).toArray T (0,0))->A.length=o->B.length=V.length->(w.setCells g o V).heap[g]? =some (.cells (A ++ (V ++ C)).toArray T (0,0))
 | [],o,w,A,B,C,h,hA,hB=>by
  have:B=[]:=ze (by simpa using hB)
  subst this
  exact h
 | v :: V,o,w,A,[],C,h,hA,hB=>by simp at hB
 | v :: V,o,w,A,b :: B,C,h,hA,hB=>by
  have h1:=xg w g o _ _ v h
  have e:((A ++ (b :: B ++ C)).toArray.setIfInBounds o v)=((A ++ [v]) ++ (B ++ C)).toArray:=by
   apply Array.ext';rw [zI];show (A ++ (b :: B ++ C)).set o v=(A ++ [v]) ++ (B ++ C);rw [ya _ _ (by omega),<-hA,yC];simp
  rw [e] at h1;have a:=pcC V (o+1) (w.setCell ⟨g,o,none⟩ v) (A ++ [v]) B C h1 (by simp;omega) (by simpa using hB);rw [World.setCells,a];simp
theorem Upd.setCellsNew {S S' a g} (c:a.heap.size<=g):∀ V o b,Upd S S' a b->Upd S S' a (b.setCells g o V)
 | [],_,_,h=>h
 | v :: V,o,b,h=>by
  rw [World.setCells]
  exact Upd.setCellsNew c V (o+1) _ (h.setNew (p:=⟨g,o,none⟩) c v)
theorem pc8 {g L a} (n:g≠L):∀ (V:List Value) (o:Nat) (w:World),w.heap[g]? =some a->(w.setCells L o V).heap[g]? =some a
 | [],_,_,h=>h
 | v :: V,o,w,h=>by
  rw [World.setCells]
  exact pc8 n V (o+1) _ (pa7 h n v)
theorem RcAt.there {w g x} (h:RcAt w g x) (a:x.ok) (o n) (d:o+n<=102):w.there g o n:=fun j c=>by
 refine ⟨?_,h.frozen _⟩
 rw [h.cell,xd (by rw [paM a];omega)]
 rfl
theorem RcAt.kiosk {w g x} (h:RcAt w g x) (k):RcAt (w.setCell ⟨g,0,none⟩ (.int .i64 k)) g { x with kiosk:=k }:=xg w g 0 _ _ (.int .i64 k) h
theorem RcAt.serial {w g x} (h:RcAt w g x) (k):RcAt (w.setCell ⟨g,1,none⟩ (.int .i64 k)) g { x with serial:=k }:=xg w g 1 _ _ (.int .i64 k) h
theorem RcAt.draw {w g x} (h:RcAt w g x) (k):RcAt (w.setCell ⟨g,2,none⟩ (.string k)) g { x with draw:=k }:=xg w g 2 _ _ (.string k) h
theorem RcAt.seen {w g x} (h:RcAt w g x) (k):RcAt (w.setCell ⟨g,3,none⟩ (.int .i64 k)) g { x with seen:=k }:=xg w g 3 _ _ (.int .i64 k) h
theorem RcAt.out {w g x} (h:RcAt w g x) (a:x.ok) {k} (c:k.length=32):RcAt (w.setCells g 4 (byteVals k)) g { x with out:=k } :=
 pcC (byteVals k) 4 w [.int .i64 x.kiosk,.int .i64 x.serial,.string x.draw,.int .i64 x.seen] (byteVals x.out) _ h rfl (by rw [pak,pak,a.2.2.2.1,c])
theorem RcAt.hash {w g x} (h:RcAt w g x) (c:x.ok) {k} (d:k.length=32):RcAt (w.setCells g 36 (byteVals k)) g { x with hash:=k }:=by
 have e:∀ k:List UInt8,rcV { x with hash:=k }=([.int .i64 x.kiosk,.int .i64 x.serial,.string x.draw,.int .i64 x.seen] ++ byteVals x.out) ++ (byteVals k ++ (byteVals x.prev ++ [.int .i64 x.r,.int .i64 x.s])):=by intro k;simp [rcV]
 have a:=h;unfold RcAt at a ⊢;rw [show rcV x=rcV { x with hash:=x.hash } from rfl,e] at a;rw [e];exact pcC (byteVals k) 36 w _ _ _ a (by simp [pak,c.2.2.2.1]) (by rw [pak,pak,c.2.2.2.2.1,d])
theorem RcAt.prev {w g x} (h:RcAt w g x) (a:x.ok) {k} (d:k.length=32):RcAt (w.setCells g 68 (byteVals k)) g { x with prev:=k }:=by
 have e:∀ k:List UInt8,rcV { x with prev:=k }=([.int .i64 x.kiosk,.int .i64 x.serial,.string x.draw,.int .i64 x.seen] ++ byteVals x.out ++ byteVals x.hash) ++ (byteVals k ++ [.int .i64 x.r,.int .i64 x.s]):=by intro k;simp [rcV]
 have c:=h;unfold RcAt at c ⊢;rw [show rcV x=rcV { x with prev:=x.prev } from rfl,e] at c;rw [e];exact pcC (byteVals k) 68 w _ _ _ c (by simp [pak,a.2.2.2.1,a.2.2.2.2.1]) (by rw [pak,pak,a.2.2.2.2.2.1,d])
theorem ptC {s r z o D c p f u l2 j C t d q w h v a b k m n h1 B g}
 (H1:∀ x y R,pab x->pab y->bs s=pb4 x y ++ 32 :: R->a=x/\b=y/\bs r=R/\j=false)
 (H2:∀ A R,(32:UInt8) ∉ A->bs r=A ++ 32 :: R->bs l2=A/\bs z=R/\C=j)
 (U:∀ x R,pab x->bs z=Lib.itoa x ++ 32 :: R->k=x/\bs o=R/\t=C)
 (S:∀ x R,pab x->bs o=Lib.itoa x ++ 32 :: R->m=x/\bs D=R/\d=t)
 (H5:∀ x R,pab x->bs D=Lib.itoa x ++ 32 :: R->n=x/\bs c=R/\q=d)
 (H6:∀ x R,x.length=32->bs c=hexL x ++ 32 :: R->h1=x/\bs p=R/\w=q)
 (Q:∀ x R,x.length=32->bs p=hexL x ++ 32 :: R->B=x/\bs f=R/\h=w)
 (H8:∀ x R,x.length=32->bs f=hexL x ++ 32 :: R->g=x/\bs u=R/\v=h)
 {y} (Z:y.ok) (e:bs s=pcg y):(⟨k,m,n,u,h1,B,g,a,b⟩:Rc)=y/\v=false:=by
 obtain ⟨y1,y2,y3,y4,y5,X,y7,y8⟩:=Z;unfold pcg pa1 at e;obtain ⟨P,Y,e3,f1⟩:=H1 _ _ _ y7 y8 e;obtain ⟨_,e4,f2⟩:=H2 _ _ (by decide) e3;obtain ⟨e5,T,f3⟩:=U _ _ y1 e4;obtain ⟨e7,e8,f4⟩:=S _ _ y2 T;obtain ⟨W,E,f5⟩:=H5 _ _ y3 e8;obtain ⟨M,N,f6⟩:=H6 _ _ y4 E;obtain ⟨H,G,f7⟩:=Q _ _ y5 N;obtain ⟨K,J,O⟩:=H8 _ _ X G;have F:=pcI J;refine ⟨?_,by rw [O,f7,f6,f5,f4,f3,f2,f1]⟩;rw [P,Y,e5,e7,W,M,H,K,F]
end Go.Proofs.YtkhjolbbpdaplaaGreatDoor
