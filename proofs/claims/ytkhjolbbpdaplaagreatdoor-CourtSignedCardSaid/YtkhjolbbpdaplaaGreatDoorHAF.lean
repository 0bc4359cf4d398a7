/- sortesref03.rounds, sortesref03.block and what follows. -/
import Derived.Test.YtkhjolbbpdaplaaGreatDoorHAE
namespace Go.Proofs.YtkhjolbbpdaplaaGreatDoor
set_option maxHeartbeats 2000000
open Go.RowKit Go.Proofs.Tryz
set_option maxRecDepth 100000
abbrev ym:=@World.cell?_setCell_other
abbrev zO:=@Addr.mk.inj
abbrev uP:=@BitVec.shiftLeft_or_distrib
abbrev vp:=@BitVec.shiftLeft_add
def kL:List W32:=(List.range 64).map kW
theorem pov:kL.length=64:=by simp [kL]
theorem puh (k) (h:k<64):kL.getD k 0=kW k:=by simp [kL,List.getD,h]
theorem pfe (l):(wordVals l).toArray.all (·.oneCell')=true:=by
 rw [yg];intro v a;simp only [wordVals,List.mem_toArray,zh] at a;obtain ⟨x,_,rfl⟩:=a;rfl
def kLit:Array Value:=#[.int .u32 1116352408,.int .u32 1899447441,.int .u32 3049323471,.int .u32 3921009573,.int .u32 961987163,.int .u32 1508970993,.int .u32 2453635748,.int .u32 2870763221,.int .u32 3624381080,.int .u32 310598401,.int .u32 607225278,.int .u32 1426881987,.int .u32 1925078388,.int .u32 2162078206,.int .u32 2614888103,.int .u32 3248222580,.int .u32 3835390401,.int .u32 4022224774,.int .u32 264347078,.int .u32 604807628,.int .u32 770255983,.int .u32 1249150122,.int .u32 1555081692,.int .u32 1996064986,.int .u32 2554220882,.int .u32 2821834349,.int .u32 2952996808,.int .u32 3210313671,.int .u32 3336571891,.int .u32 3584528711,.int .u32 113926993,.int .u32 338241895,.int .u32 666307205,.int .u32 773529912,.int .u32 1294757372,.int .u32 1396182291,.int .u32 1695183700,.int .u32 1986661051,.int .u32 2177026350,.int .u32 2456956037,.int .u32 2730485921,.int .u32 2820302411,.int .u32 3259730800,.int .u32 3345764771,.int .u32 3516065817,.int .u32 3600352804,.int .u32 4094571909,.int .u32 275423344,.int .u32 430227734,.int .u32 506948616,.int .u32 659060556,.int .u32 883997877,.int .u32 958139571,.int .u32 1322822218,.int .u32 1537002063,.int .u32 1747873779,.int .u32 1955562222,.int .u32 2024104815,.int .u32 2227730452,.int .u32 2361852424,.int .u32 2428436474,.int .u32 2756734187,.int .u32 3204031479,.int .u32 3329325298]
theorem pow:kLit=(wordVals kL).toArray:=by kernel_rfl
theorem kLit_size:kLit.size=64:=by kernel_rfl
theorem i64w:(prog.info? 302).map (·.size)=some 64:=by kernel_rfl
theorem pmZ (w):Calls prog 283 #[] w (fun e w'=>∃ cs,Hid (cs=(wordVals kL).toArray)/\e=.returned (.agg cs)/\Uq w w'):=by
 have h0:(w.alloc (.cells (wordVals (List.replicate 64 0)).toArray 302)).heap[w.heap.size]? =some (.cells (wordVals (List.replicate 64 0)).toArray 302 (0,0)):=xi _ _;have h1:=xz _ w.heap.size _ kLit _ _ h0;have H0:=ah h0;have H1:=ah h1;have f:Uq w ((w.alloc (.cells (wordVals (List.replicate 64 0)).toArray 302)).setRow w.heap.size kLit):=((Upd.refl [] w).alloc _).setRowNew (xj _) _;have a:kLit.all (·.oneCell')=true:=by rw [pow];exact pfe _
 have c:Fi 302 kLit:=by show _=_;rw [kLit_size];exact i64w
 have d:=ah a;clear h0 h1 a;go_in;go_wp2_with (refine yH rfl 302 _ _ rfl w.heap.size kLit rfl rfl _ _ H0.out c.out (by rw [kLit_size];simp [wordVals]) d.out ?_)
 refine bE H1 underlying302 c ⟨kLit,pow,rfl,f⟩
theorem pox (x n w) (a:1<=n/\n<=31) :
 Calls prog 284 #[.int .u32 (x.toNat:Int),.int .i64 n] w (pks (.int .u32 ((rotR x n.toNat).toNat:Int)) w):=by
 obtain ⟨m,rfl⟩:∃ m:Nat,n=(m:Int):=⟨n.toNat,by omega⟩
 exact pqQ x m w (by omega)
theorem pm0 (w:World) (o):(w.alloc o).heap.size=w.heap.size+1:=by simp
structure BlkW (w wr:World) (G:Nat) (v:St) (l:List W32):Prop where
 hs:wr.heap[w.heap.size]? =some (.cells (wordVals v.l).toArray 275 (0,0))
 hr:wr.heap[w.heap.size+1]? =some (.cells (wordVals (List.replicate 8 0)).toArray 275 (0,0))
 hk:wr.heap[G]? =some (.cells (wordVals kL).toArray 302 (0,0))
 hw:wr.heap[G+1]? =some (.cells (wordVals l).toArray 302 (0,0))
 lt:w.heap.size+1<G
 up:Upd [] [] w wr
theorem BlkW.drewN {w wr G v l} (h:BlkW w wr G v l) (n):BlkW w (wr.drewN n) G v l:=⟨h.hs,h.hr,h.hk,h.hw,h.lt,h.up.drewN n⟩
theorem BlkW.drew {w wr G v l} (h:BlkW w wr G v l):BlkW w wr.drew G v l:=⟨h.hs,h.hr,h.hk,h.hw,h.lt,h.up.drew⟩
theorem BlkW.set {w wr G v l} (h:BlkW w wr G v l) (k x):BlkW w (wr.setCell ⟨G+1,k,none⟩ (.int .u32 (x.toNat:Int))) G v (l.set k x):=by
 have:=h.lt;refine ⟨?_,?_,?_,?_,h.lt,h.up.setNew (by simp;omega) _⟩
 · rw [xE _ _ _ _ (by simp;omega)];exact h.hs
 · rw [xE _ _ _ _ (by simp;omega)];exact h.hr
 · rw [xE _ _ _ _ (by simp)];exact h.hk
 · have a:=xg wr (G+1) k _ _ (peK x) h.hw;rw [phN] at a;exact a
theorem BlkW.word {w wr G v l} (h:BlkW w wr G v l) {k} (a:k<l.length):wr.cell? ⟨G+1,k,none⟩=some (.int .u32 ((l.getD k 0).toNat:Int)):=pao _ _ _ _ _ h.hw a
theorem BlkW.fz {w wr G v l} (h:BlkW w wr G v l) (k):wr.frozen? ⟨G+1,k,none⟩=false:=xp _ _ _ _ _ h.hw
theorem BlkW.st {w wr G v l} (h:BlkW w wr G v l) {k} (a:k<8):wr.cell? ⟨w.heap.size,k,none⟩=some (.int .u32 ((v.l.getD k 0).toNat:Int)):=pao _ _ _ _ _ h.hs a
theorem BlkW.kon {w wr G v l} (h:BlkW w wr G v l) {k} (a:k<64):wr.cell? ⟨G,k,none⟩=some (.int .u32 ((kW k).toNat:Int)):=by
 have:=pao _ _ k _ _ h.hk (by rw [pov];exact a);rw [puh k a] at this;exact this
def peO (b:List UInt8) (i:Nat):List W32:=if i<16 then words b i ++ List.replicate (64 - i) 0 else rowW b (i - 16)
theorem piZ (b i) (h:i<=64):(peO b i).length=64:=by
 unfold peO;split
 · simp [pba];omega
 · exact pd7 b _ (by omega)
theorem poy (b i) (h:i<16):(peO b i).set i (piE b i)=peO b (i+1):=by
 have e:List.replicate (64 - i) (0:W32)=0 :: List.replicate (64 - (i+1)) 0:=by rw [show 64 - i=(64 - (i+1))+1 by omega,yL]
 have h1:(peO b i).set i (piE b i)=words b (i+1) ++ List.replicate (64 - (i+1)) 0:=by
  unfold peO;rw [xH h,ya _ _ (by rw [pba];exact xj _),pba,yC,e,xX];simp [words,List.range_succ]
 rw [h1];unfold peO;split
 · rfl
 · have:i=15:=by omega
   subst this;rfl
theorem psl (a b c d):bits .or .u32 (bits .or .u32 (bits .or .u32 ((a.toNat:Int) % 4294967296 * 16777216 % 4294967296) ((b.toNat:Int) % 4294967296 * 65536 % 4294967296)) ((c.toNat:Int) % 4294967296 * 256 % 4294967296)) ((d.toNat:Int) % 4294967296)=((pqC a b c d).toNat:Int):=by
 have e:∀ x:UInt8,(x.toNat:Int) % 4294967296=((BitVec.ofNat 32 x.toNat).toNat:Int):=by
  intro x;have:=x.toNat_lt;rw [zV,xV (by omega)];omega
 have f:=pmK (BitVec.ofNat 32 a.toNat) 24;have g:=pmK (BitVec.ofNat 32 b.toNat) 16;have h:=pmK (BitVec.ofNat 32 c.toNat) 8;rw [show (2:Int) ^ 24=16777216 from rfl] at f;rw [show (2:Int) ^ 16=65536 from rfl] at g;rw [show (2:Int) ^ 8=256 from rfl] at h;rw [e a,e b,e c,e d,f,g,h,or_w,or_w,or_w];congr 2;rw [<-ptl a b c d];have z:(0:W32) <<< 8 ||| BitVec.ofNat 32 a.toNat=BitVec.ofNat 32 a.toNat:=by simp
 rw [z,uP,uP,uP,<-vp,<-vp,<-vp]
theorem BlkW.start (w a v cs) (d:cs=(wordVals kL).toArray) (c:Uq ((w.alloc (.cells (wordVals v.l).toArray 275)).alloc (.cells (wordVals (List.replicate 8 0)).toArray 275)) a) :
 BlkW w (((a.alloc (.cells (wordVals (List.replicate 64 0)).toArray 302)).setRow a.heap.size cs).alloc (.cells (wordVals (List.replicate 64 0)).toArray 302)) a.heap.size v (List.replicate 64 0):=by
 have g:=c.size;simp only [pm0] at g;have e:a.heap[w.heap.size]? =some (.cells (wordVals v.l).toArray 275 (0,0)):=by
  rw [c.block _ (by simp;omega) (by simp),xY _ _ _ (by simp)];exact xi _ _
 have f:a.heap[w.heap.size+1]? =some (.cells (wordVals (List.replicate 8 0)).toArray 275 (0,0)):=by
  rw [c.block _ (by simp) (by simp)];simpa using xi (w.alloc (.cells (wordVals v.l).toArray 275)) (.cells (wordVals (List.replicate 8 0)).toArray 275)
 refine ⟨?_,?_,?_,?_,by omega,?_⟩
 · rw [xY _ _ _ (by simp;omega),yD _ _ _ _ (by omega),xY _ _ _ (by omega)];exact e
 · rw [xY _ _ _ (by simp;omega),yD _ _ _ _ (by omega),xY _ _ _ (by omega)];exact f
 · rw [xY _ _ _ (by simp),xz _ _ _ cs _ _ (xi a _),d]
 · have:=xi ((a.alloc (.cells (wordVals (List.replicate 64 0)).toArray 302)).setRow a.heap.size cs) (.cells (wordVals (List.replicate 64 0)).toArray 302);simpa using this
 · exact ((((((Upd.refl [] w).alloc _).alloc _).trans c).alloc _).setRowNew (by omega) _).alloc _
structure BlkV (w wr:World) (G Gv:Nat) (v:St) (l:List W32) (x:St):Prop where
 blk:BlkW w wr G v l
 hv:wr.heap[Gv]? =some (.cells (wordVals x.l).toArray 275 (0,0))
 gl:G+1<Gv
theorem BlkV.drewN {w wr G a v x l} (h:BlkV w wr G a v l x) (n):BlkV w (wr.drewN n) G a v l x:=⟨h.blk.drewN n,h.hv,h.gl⟩
theorem BlkV.cells {w wr G a v l A B C D E F c H} (h:BlkV w wr G a v l ⟨A,B,C,D,E,F,c,H⟩):wr.cell? ⟨a,0,none⟩=some (.int .u32 (A.toNat:Int))/\wr.cell? ⟨a,1,none⟩=some (.int .u32 (B.toNat:Int))/\wr.cell? ⟨a,2,none⟩=some (.int .u32 (C.toNat:Int))/\wr.cell? ⟨a,3,none⟩=some (.int .u32 (D.toNat:Int))/\wr.cell? ⟨a,4,none⟩=some (.int .u32 (E.toNat:Int))/\wr.cell? ⟨a,5,none⟩=some (.int .u32 (F.toNat:Int))/\wr.cell? ⟨a,6,none⟩=some (.int .u32 (c.toNat:Int))/\wr.cell? ⟨a,7,none⟩=some (.int .u32 (H.toNat:Int)) :=
 ⟨pao _ _ 0 _ _ h.hv (by simp [St.l]),pao _ _ 1 _ _ h.hv (by simp [St.l]),pao _ _ 2 _ _ h.hv (by simp [St.l]),pao _ _ 3 _ _ h.hv (by simp [St.l]),pao _ _ 4 _ _ h.hv (by simp [St.l]),pao _ _ 5 _ _ h.hv (by simp [St.l]),pao _ _ 6 _ _ h.hv (by simp [St.l]),pao _ _ 7 _ _ h.hv (by simp [St.l])⟩
theorem BlkV.fz {w wr G a v x l} (h:BlkV w wr G a v l x) (k):wr.frozen? ⟨a,k,none⟩=false:=xp _ _ _ _ _ h.hv
theorem BlkV.start {w wr G v l} (h:BlkW w wr G v l) (x):BlkV w (wr.alloc (.cells (wordVals x.l).toArray 275)) G wr.heap.size v l x:=by
 have a:=(xq.1 h.hw).1;have h1:=h.lt;refine ⟨⟨?_,?_,?_,?_,h.lt,h.up.alloc _⟩,xi _ _,by omega⟩
 · rw [xY _ _ _ (by omega)];exact h.hs
 · rw [xY _ _ _ (by omega)];exact h.hr
 · rw [xY _ _ _ (by omega)];exact h.hk
 · rw [xY _ _ _ (by omega)];exact h.hw
theorem BlkV.store {w wr G m v x l A B C D E F o H} (h:BlkV w wr G m v l x):BlkV w ((((((((wr.setCell ⟨m,0,none⟩ (.int .u32 (A.toNat:Int))).setCell ⟨m,1,none⟩ (.int .u32 (B.toNat:Int))).setCell ⟨m,2,none⟩ (.int .u32 (C.toNat:Int))).setCell ⟨m,3,none⟩ (.int .u32 (D.toNat:Int))).setCell ⟨m,4,none⟩ (.int .u32 (E.toNat:Int))).setCell ⟨m,5,none⟩ (.int .u32 (F.toNat:Int))).setCell ⟨m,6,none⟩ (.int .u32 (o.toNat:Int))).setCell ⟨m,7,none⟩ (.int .u32 (H.toNat:Int))) G m v l ⟨A,B,C,D,E,F,o,H⟩:=by
 have h1:=h.gl;have Q:=h.blk.lt;have n:w.heap.size<=m:=by omega
 have j:∀ (u:World) (i k:Nat) (y:Value),k≠m->(u.setCell ⟨m,i,none⟩ y).heap[k]? =u.heap[k]?:=fun u i k y t=>xE _ _ _ _ t;refine ⟨⟨?_,?_,?_,?_,h.blk.lt,((((((((h.blk.up.setNew (p:=⟨_,_,none⟩) n _).setNew (p:=⟨_,_,none⟩) n _).setNew (p:=⟨_,_,none⟩) n _).setNew (p:=⟨_,_,none⟩) n _).setNew (p:=⟨_,_,none⟩) n _).setNew (p:=⟨_,_,none⟩) n _).setNew (p:=⟨_,_,none⟩) n _).setNew (p:=⟨_,_,none⟩) n _)⟩,?_,h.gl⟩
 · rw [j _ _ _ _ (by omega),j _ _ _ _ (by omega),j _ _ _ _ (by omega),j _ _ _ _ (by omega),j _ _ _ _ (by omega),j _ _ _ _ (by omega),j _ _ _ _ (by omega),j _ _ _ _ (by omega)];exact h.blk.hs
 · rw [j _ _ _ _ (by omega),j _ _ _ _ (by omega),j _ _ _ _ (by omega),j _ _ _ _ (by omega),j _ _ _ _ (by omega),j _ _ _ _ (by omega),j _ _ _ _ (by omega),j _ _ _ _ (by omega)];exact h.blk.hr
 · rw [j _ _ _ _ (by omega),j _ _ _ _ (by omega),j _ _ _ _ (by omega),j _ _ _ _ (by omega),j _ _ _ _ (by omega),j _ _ _ _ (by omega),j _ _ _ _ (by omega),j _ _ _ _ (by omega)];exact h.blk.hk
 · rw [j _ _ _ _ (by omega),j _ _ _ _ (by omega),j _ _ _ _ (by omega),j _ _ _ _ (by omega),j _ _ _ _ (by omega),j _ _ _ _ (by omega),j _ _ _ _ (by omega),j _ _ _ _ (by omega)];exact h.blk.hw
 · obtain ⟨a,b,c,d,e,f,g,P⟩:=x;have q:=xg _ m 0 _ _ (Value.int .u32 (A.toNat:Int)) h.hv;have N:=xg _ m 1 _ _ (Value.int .u32 (B.toNat:Int)) q;have J:=xg _ m 2 _ _ (Value.int .u32 (C.toNat:Int)) N;have K:=xg _ m 3 _ _ (Value.int .u32 (D.toNat:Int)) J;have M:=xg _ m 4 _ _ (Value.int .u32 (E.toNat:Int)) K;have r:=xg _ m 5 _ _ (Value.int .u32 (F.toNat:Int)) M;have O:=xg _ m 6 _ _ (Value.int .u32 (o.toNat:Int)) r;have z:=xg _ m 7 _ _ (Value.int .u32 (H.toNat:Int)) O;refine z.trans ?_;simp [wordVals,St.l,peK]
theorem pf9 {P f args} {w:World} {n v} (h:Calls P f args (w.drewN n) (pks v (w.drewN n))) :
 Calls P f args (w.drewN n) fun e a=>e=.returned v/\∃ m,a=w.drewN m :=
 h.mono fun _ _ ⟨k,c,d⟩=>⟨c,n+k,by rw [d];simp [World.drewN,Nat.add_assoc]⟩
def addL (u v:St) (k:Nat):List W32:=(addS u v).l.take k ++ u.l.drop k
theorem pkA (u v k):(addL u v k).length=8:=by
 simp [addL,St.l];omega
theorem psm (u v k) (h:k<8):(addL u v k).getD k 0=u.l.getD k 0:=by
 have:k=0\/k=1\/k=2\/k=3\/k=4\/k=5\/k=6\/k=7:=by omega
 rcases this with rfl | rfl | rfl | rfl | rfl | rfl | rfl | rfl <;> rfl
theorem pqR (u v k) (h:k<8):(addL u v k).set k (u.l.getD k 0+v.l.getD k 0)=addL u v (k+1):=by
 have:k=0\/k=1\/k=2\/k=3\/k=4\/k=5\/k=6\/k=7:=by omega
 rcases this with rfl | rfl | rfl | rfl | rfl | rfl | rfl | rfl <;> rfl
structure BlkT (w wr:World) (Gv:Nat) (v x:St) (k:Nat):Prop where
 hs:wr.heap[w.heap.size]? =some (.cells (wordVals (addL v x k)).toArray 275 (0,0))
 hr:wr.heap[w.heap.size+1]? =some (.cells (wordVals (List.replicate 8 0)).toArray 275 (0,0))
 hv:wr.heap[Gv]? =some (.cells (wordVals x.l).toArray 275 (0,0))
 gl:w.heap.size+1<Gv
 up:Upd [] [] w wr
theorem BlkT.start {w wr G a v x l} (h:BlkV w wr G a v l x):BlkT w wr a v x 0:=by
 have h1:=h.gl;have c:=h.blk.lt;exact ⟨h.blk.hs,h.blk.hr,h.hv,by omega,h.blk.up⟩
theorem BlkT.set {w wr d v x k} (h:BlkT w wr d v x k) (e:k<8) (y) (c:y=v.l.getD k 0+x.l.getD k 0):BlkT w (wr.setCell ⟨w.heap.size,k,none⟩ (.int .u32 (y.toNat:Int))).drew d v x (k+1):=by
 have h1:=h.gl;refine ⟨?_,?_,?_,h.gl,(h.up.setNew (xj _) _).drew⟩
 · have a:=xg wr w.heap.size k _ _ (peK y) h.hs;rw [phN,c,pqR v x k e,<-c] at a;exact a
 · show (wr.setCell _ _).heap[_]? =_;rw [xE _ _ _ _ (by simp)];exact h.hr
 · show (wr.setCell _ _).heap[_]? =_;rw [xE _ _ _ _ (by simp;omega)];exact h.hv
theorem pui {wr:World} {n G k i j y u v} (h1:wr.cell? ⟨G,i,none⟩=some u) (a:wr.cell? ⟨G,j,none⟩=some v) (d:k≠i) (c:k≠j) :
 ((wr.drewN n).setCell ⟨G,k,none⟩ y).cell? ⟨G,i,none⟩=some u/\((wr.drewN n).setCell ⟨G,k,none⟩ y).cell? ⟨G,j,none⟩=some v :=
 ⟨(ym _ _ _ _ (fun e=>d (zO e).2.1)).trans h1,(ym _ _ _ _ (fun e=>c (zO e).2.1)).trans a⟩
theorem poz (v s w) (hs:s.size=64) :
 Calls prog 244 #[stV v,.string s] w (Mk (stV (mixS v (bs s))) w):=by
 obtain ⟨V,hv⟩:=az (v);obtain ⟨a,b,c,d,e,f,g,h⟩:=v;show Calls prog 244 #[.agg #[.int .u32 (a.toNat:Int),.int .u32 (b.toNat:Int),.int .u32 (c.toNat:Int),.int .u32 (d.toNat:Int),.int .u32 (e.toNat:Int),.int .u32 (f.toNat:Int),.int .u32 (g.toNat:Int),.int .u32 (h.toNat:Int)],.string s] w _;obtain ⟨V',hV⟩:=az (stV (mixS ⟨a,b,c,d,e,f,g,h⟩ (bs s)));rw [<-hV];have HV:=ah hV;clear hV;have o:=ah hv;clear hv;have cl:(s.size:Int)=64:=by omega
 have cc:64<=s.size:=by omega
 have HS:=ah hs;clear hs;go_in;go_wp2_with fail;refine (pmZ _).mono ?_;rintro e1 w2 ⟨cs,aj,rfl,ax⟩;have u:w.heap.size+1<w2.heap.size:=by have:=ax.size;simp at this;omega
 have h0:(w2.alloc (.cells (wordVals (List.replicate 64 0)).toArray 302)).heap[w2.heap.size]? =some (.cells (wordVals (List.replicate 64 0)).toArray 302 (0,0)):=xi _ _;have H0:=ah h0;have HI:Fi 302 cs:=by show _=_;rw [aj.out,i64w];simp [wordVals,kL]
 have a6:Fo cs:=by show _=_;rw [aj.out];exact pfe _
 have a1:Hid ((wordVals (List.replicate 64 0)).toArray.size=cs.size):=by show _=_;rw [aj.out];simp [wordVals,kL]
 clear h0;go_wp2_with (refine bV H0 HI a1 a6 ?_)
 have aY:=BlkW.start w w2 V cs aj.out (by rw [o.out];exact ax);generalize w2.heap.size=G at *;go_loopw [7] (fun i wr=>∃ k:Nat,i=.int .i64 (k:Int)/\k<=64/\BlkW w wr G V (peO (bs s) k)) (fun i _=>64 - (intOf i).toNat)
 case atStart=>exact ⟨0,rfl,xu _,aY⟩
 case round =>
  clear aY H0 ax;obtain ⟨k,rfl,hk,j⟩:=hrel;by_cases a8:k<64
  · by_cases am:k<16
    · obtain ⟨q,aq⟩:∃ q,q=4 * k:=⟨_,rfl⟩
      obtain ⟨J,ao⟩:∃ J,J=4 * k+1:=⟨_,rfl⟩
      obtain ⟨n,Q⟩:∃ n,n=4 * k+2:=⟨_,rfl⟩
      obtain ⟨z,aJ⟩:∃ z,z=4 * k+3:=⟨_,rfl⟩
      have i0:IntKind.i64.wrap (4 * (k:Int))=(q:Int):=by rw [pam (by omega) (by omega)];omega
      have i1:IntKind.i64.wrap ((q:Int)+1)=(J:Int):=by rw [pam (by omega) (by omega)];omega
      have i2:IntKind.i64.wrap ((q:Int)+2)=(n:Int):=by rw [pam (by omega) (by omega)];omega
      have i3:IntKind.i64.wrap ((q:Int)+3)=(z:Int):=by rw [pam (by omega) (by omega)];omega
      have l0:q<s.size:=by omega
      have U:J<s.size:=by omega
      have R:n<s.size:=by omega
      have T:z<s.size:=by omega
      have m0:(q:Int)<s.size:=by omega
      have Z:(J:Int)<s.size:=by omega
      have m2:(n:Int)<s.size:=by omega
      have m3:(z:Int)<s.size:=by omega
      have kk:(k:Int)<64:=by omega
      have n0:(q:Int)<64:=by omega
      have o0:q<64:=by omega
      have n1:(J:Int)<64:=by omega
      have o1:J<64:=by omega
      have n2:(n:Int)<64:=by omega
      have o2:n<64:=by omega
      have n3:(z:Int)<64:=by omega
      have o3:z<64:=by omega
      have q0:=j.word (k:=k) (by rw [piZ _ _ hk];omega);have qf:=j.fz k;have aZ:piE (bs s) k=pqC s[q] s[J] s[n] s[z]:=by
       rw [piE,<-ao,<-Q,<-aJ,<-aq,pnY s q l0,pnY s J U,pnY s n R,pnY s z T]
      have bt:=ah aZ;have bU:=ah (xf aq (xf ao (xf Q aJ)));clear aq ao Q aJ aZ;go_wp2_with fail;go_still_tail 31,(by kernel_rfl)
      go_wp2_with fail;refine ⟨⟨k+1,by go_num,by omega,?_⟩,by simp [intOf];omega⟩;rw [psl,<-bt.out,<-poy _ _ am];exact (j.set k _).drew
    · obtain ⟨m,aT⟩:∃ m,k=m+16:=⟨k - 16,by omega⟩
      obtain ⟨ac,an⟩:=az (m+1);obtain ⟨N,aQ⟩:=az (m+9);obtain ⟨n,Q⟩:=az (m+14);have aa:peO (bs s) k=rowW (bs s) m:=by unfold peO;rw [yy am];congr 1;omega
      have aS:peO (bs s) (k+1)=rowW (bs s) (m+1):=by unfold peO;rw [yy (by omega)];congr 1;omega
      rw [aa] at j;have ba:=ah aS;clear aa aS;have bh:=pd7 (bs s) m (by omega);have q0:=j.word (k:=k) (by omega);have al:=j.word (k:=m) (by omega);have a3:=j.word (k:=ac) (by omega);have q7:=j.word (k:=N) (by omega);have S:=j.word (k:=n) (by omega);have qf:=j.fz k;rw [plv _ _ _ (by omega)] at al a3 q7 S;obtain ⟨Y,hx16⟩:=az ((pbg (bs s) m).getD m 0);obtain ⟨x,af⟩:=az ((pbg (bs s) m).getD ac 0);obtain ⟨x7,ak⟩:=az ((pbg (bs s) m).getD N 0);obtain ⟨r,M⟩:=az ((pbg (bs s) m).getD n 0);rw [<-hx16] at al;rw [<-af] at a3;rw [<-ak] at q7;rw [<-M] at S;have b1:IntKind.i64.wrap ((k:Int) - 16)=(m:Int):=by rw [pam (by omega) (by omega)];omega
      have b6:IntKind.i64.wrap ((k:Int) - 15)=(ac:Int):=by rw [pam (by omega) (by omega)];omega
      have i7:IntKind.i64.wrap ((k:Int) - 7)=(N:Int):=by rw [pam (by omega) (by omega)];omega
      have i2:IntKind.i64.wrap ((k:Int) - 2)=(n:Int):=by rw [pam (by omega) (by omega)];omega
      have bW:(k:Int) - 15=(ac:Int):=by omega
      have j2:(k:Int) - 2=(n:Int):=by omega
      have b9:(m:Int)<64:=by omega
      have bT:(ac:Int)<64:=by omega
      have b7:(N:Int)<64:=by omega
      have b2:(n:Int)<64:=by omega
      have b0:(k:Int)<64:=by omega
      have HX:=ah (xf hx16 (xf af (xf ak M)));have HK:=ah (xf aT (xf an (xf aQ Q)));have a2:pmJ (pbg (bs s) m)=Y+sig0 x+x7+sig1 r:=by
       rw [pmJ,paR,hx16,af,ak,M,an,aQ,Q,show 16+m - 16=m by omega,show 16+m - 15=m+1 by omega,show 16+m - 7=m+9 by omega,show 16+m - 2=m+14 by omega]
      have ar:=plw (bs s) m (by omega);rw [show 16+m=k by omega,a2] at ar;have HR:=ah ar;have cj:16<=k:=by omega
      have ci:m≠k:=by omega
      have bO:N≠k:=by omega
      have bI:k≠m:=by omega
      have bq:k≠N:=by omega
      clear hx16 af ak M aT an aQ Q bh a2 ar am;obtain ⟨U,bm,aA⟩:∃ l:W32,bits .xor .u32 ((rotR x 7).toNat:Int) ((rotR x 18).toNat:Int)=(l.toNat:Int)/\Hid (l=rotR x 7 ^^^ rotR x 18):=⟨_,pcm _ _,rfl⟩
      obtain ⟨R,bu,av⟩:∃ l:W32,(x.toNat:Int) / 8=(l.toNat:Int)/\Hid (l=x >>> 3):=⟨_,pmL x 3,rfl⟩
      obtain ⟨T,bv,aG⟩:∃ l:W32,bits .xor .u32 (U.toNat:Int) (R.toNat:Int)=(l.toNat:Int)/\Hid (l=U ^^^ R):=⟨_,pcm _ _,rfl⟩
      obtain ⟨l4,bg,au⟩:∃ l:W32,IntKind.u32.wrap ((Y.toNat:Int)+(T.toNat:Int))=(l.toNat:Int)/\Hid (l=Y+T):=⟨_,addW _ _,rfl⟩
      obtain ⟨l5,bf,aO⟩:∃ l:W32,IntKind.u32.wrap ((l4.toNat:Int)+(x7.toNat:Int))=(l.toNat:Int)/\Hid (l=l4+x7):=⟨_,addW _ _,rfl⟩
      obtain ⟨Z,bK,ay⟩:∃ l:W32,bits .xor .u32 ((rotR r 17).toNat:Int) ((rotR r 19).toNat:Int)=(l.toNat:Int)/\Hid (l=rotR r 17 ^^^ rotR r 19):=⟨_,pcm _ _,rfl⟩
      obtain ⟨m2,bn,aC⟩:∃ l:W32,(r.toNat:Int) / 1024=(l.toNat:Int)/\Hid (l=r >>> 10):=⟨_,pmL r 10,rfl⟩
      obtain ⟨m3,bj,aK⟩:∃ l:W32,bits .xor .u32 (Z.toNat:Int) (m2.toNat:Int)=(l.toNat:Int)/\Hid (l=Z ^^^ m2):=⟨_,pcm _ _,rfl⟩
      obtain ⟨y3,bP,bJ⟩:∃ l:W32,IntKind.u32.wrap ((l5.toNat:Int)+(m3.toNat:Int))=(l.toNat:Int)/\Hid (l=l5+m3):=⟨_,addW _ _,rfl⟩
      go_wp2_with fail;have g0:=j.drew;have aV:wr.drew.cell? ⟨G+1,m,none⟩=some (.int .u32 (Y.toNat:Int))/\wr.drew.cell? ⟨G+1,N,none⟩=some (.int .u32 (x7.toNat:Int)):=⟨al,q7⟩
      go_region_held3 (fun wp=>wp.cell? ⟨G+1,m,none⟩=some (.int .u32 (Y.toNat:Int))/\wp.cell? ⟨G+1,N,none⟩=some (.int .u32 (x7.toNat:Int))) (first | exact aV | assumption | exact pui al q7 bI bq)
       ((go_at_call 284;((with_reducible refine (pox _ _ _ (by omega)).mono ?_);rintro e wq ⟨nq,rfl,rfl⟩;have kq:=aV)))
      go_wp2_with fail;refine ⟨⟨k+1,by go_num,by omega,?_⟩,by simp [intOf];omega⟩;have hy:y3=Y+sig0 x+x7+sig1 r:=by rw [bJ.out,aO.out,au.out,aG.out,av.out,aA.out,aK.out,aC.out,ay.out];rfl
      have hR:=HR.out;rw [<-hy] at hR;rw [ba.out,<-hR];exact (j.drewN _).set k y3
  · have W:(k:Int)=64:=by omega
    have ab:k=64:=by omega
    have aa:peO (bs s) k=pbg (bs s) 48:=by rw [ab];show rowW (bs s) 48=_;simp [rowW]
    rw [aa] at j;rw [W];clear a8 hk W ab aa HI a6 a1;obtain ⟨ws,ai⟩:=az (pbg (bs s) 48);have a7:ws.length=64:=by rw [ai,paR]
    rw [<-ai] at j;have bD:=ah ai;have bo:=ah a7;clear ai a7;have p0:wr.cell? ⟨w.heap.size,0,none⟩=some (.int .u32 (a.toNat:Int)):=by have:=j.st (k:=0) (by omega);rw [o.out] at this;exact this
    have p1:wr.cell? ⟨w.heap.size,1,none⟩=some (.int .u32 (b.toNat:Int)):=by have:=j.st (k:=1) (by omega);rw [o.out] at this;exact this
    have p2:wr.cell? ⟨w.heap.size,2,none⟩=some (.int .u32 (c.toNat:Int)):=by have:=j.st (k:=2) (by omega);rw [o.out] at this;exact this
    have p3:wr.cell? ⟨w.heap.size,3,none⟩=some (.int .u32 (d.toNat:Int)):=by have:=j.st (k:=3) (by omega);rw [o.out] at this;exact this
    have p4:wr.cell? ⟨w.heap.size,4,none⟩=some (.int .u32 (e.toNat:Int)):=by have:=j.st (k:=4) (by omega);rw [o.out] at this;exact this
    have p5:wr.cell? ⟨w.heap.size,5,none⟩=some (.int .u32 (f.toNat:Int)):=by have:=j.st (k:=5) (by omega);rw [o.out] at this;exact this
    have p6:wr.cell? ⟨w.heap.size,6,none⟩=some (.int .u32 (g.toNat:Int)):=by have:=j.st (k:=6) (by omega);rw [o.out] at this;exact this
    have p7:wr.cell? ⟨w.heap.size,7,none⟩=some (.int .u32 (h.toNat:Int)):=by have:=j.st (k:=7) (by omega);rw [o.out] at this;exact this
    have aw:=BlkV.start j V;have a9:pfT V ws 0=V:=rfl;rw [o.out] at aw;go_wp2_with fail;clear p0 p1 p2 p3 p4 p5 p6 p7;generalize wr.heap.size=Gv at *;have aB:BlkV w (wr.alloc (Obj.cells #[Value.int IntKind.u32 ↑(BitVec.toNat a),Value.int IntKind.u32 ↑(BitVec.toNat b),Value.int IntKind.u32 ↑(BitVec.toNat c),Value.int IntKind.u32 ↑(BitVec.toNat d),Value.int IntKind.u32 ↑(BitVec.toNat e),Value.int IntKind.u32 ↑(BitVec.toNat f),Value.int IntKind.u32 ↑(BitVec.toNat g),Value.int IntKind.u32 ↑(BitVec.toNat h)] 275)) G Gv V ws V:=by rw [o.out];exact aw
    clear aw j a9;go_loopw [11] (fun i wr=>∃ (k:Nat) (A B C D E F P H:W32),i=.int .i64 (k:Int)/\k<=64/\BlkV w wr G Gv V ws ⟨A,B,C,D,E,F,P,H⟩/\Hid (pfT V ws k=⟨A,B,C,D,E,F,P,H⟩)) (fun i _=>64 - (intOf i).toNat)
    case atStart=>exact ⟨0,a,b,c,d,e,f,g,h,rfl,by omega,(by rw [o.out] at aB ⊢;exact aB),o.out⟩
    case round =>
     clear aB;obtain ⟨k,A,B,C,D,E,F,P,H,rfl,hk,j,ag⟩:=hrel;by_cases u:k<64
     · obtain ⟨c0,c1,c2,c3,c4,c5,c6,c7⟩:=j.cells;have q1:=j.blk.word (k:=k) (by rw [bo.out];exact u);have S:=j.blk.kon (k:=k) u;obtain ⟨K,hK⟩:=az (kW k);obtain ⟨Wd,aP⟩:=az (ws.getD k 0);rw [<-aP] at q1;rw [<-hK] at S;have a0:=ah (xf hK aP);clear hK aP;have W:(k:Int)<64:=by omega
       obtain ⟨U,bm,aA⟩:∃ l:W32,bits .xor .u32 ((rotR E 6).toNat:Int) ((rotR E 11).toNat:Int)=(l.toNat:Int)/\Hid (l=(rotR E 6) ^^^ (rotR E 11)):=⟨_,pcm _ _,rfl⟩
       obtain ⟨R,bu,av⟩:∃ l:W32,bits .xor .u32 (U.toNat:Int) ((rotR E 25).toNat:Int)=(l.toNat:Int)/\Hid (l=U ^^^ (rotR E 25)):=⟨_,pcm _ _,rfl⟩
       obtain ⟨T,bv,aG⟩:∃ l:W32,IntKind.u32.wrap ((H.toNat:Int)+(R.toNat:Int))=(l.toNat:Int)/\Hid (l=H+R):=⟨_,addW _ _,rfl⟩
       obtain ⟨l4,bg,au⟩:∃ l:W32,bits .and .u32 (E.toNat:Int) (F.toNat:Int)=(l.toNat:Int)/\Hid (l=E &&& F):=⟨_,pgP _ _,rfl⟩
       obtain ⟨l5,bf,aO⟩:∃ l:W32,bits .xor .u32 (if IntKind.u32.signed=true then -1 else IntKind.u32.max) (E.toNat:Int)=(l.toNat:Int)/\Hid (l = ~~~E):=⟨_,ptk _,rfl⟩
       obtain ⟨l6,ca,bw⟩:∃ l:W32,bits .and .u32 (l5.toNat:Int) (P.toNat:Int)=(l.toNat:Int)/\Hid (l=l5 &&& P):=⟨_,pgP _ _,rfl⟩
       obtain ⟨l7,cg,bi⟩:∃ l:W32,bits .xor .u32 (l4.toNat:Int) (l6.toNat:Int)=(l.toNat:Int)/\Hid (l=l4 ^^^ l6):=⟨_,pcm _ _,rfl⟩
       obtain ⟨l8,cf,bC⟩:∃ l:W32,IntKind.u32.wrap ((T.toNat:Int)+(l7.toNat:Int))=(l.toNat:Int)/\Hid (l=T+l7):=⟨_,addW _ _,rfl⟩
       obtain ⟨l9,ce,bd⟩:∃ l:W32,IntKind.u32.wrap ((l8.toNat:Int)+(K.toNat:Int))=(l.toNat:Int)/\Hid (l=l8+K):=⟨_,addW _ _,rfl⟩
       obtain ⟨ad,ch,bb⟩:∃ l:W32,IntKind.u32.wrap ((l9.toNat:Int)+(Wd.toNat:Int))=(l.toNat:Int)/\Hid (l=l9+Wd):=⟨_,addW _ _,rfl⟩
       obtain ⟨Z,bK,ay⟩:∃ l:W32,bits .xor .u32 ((rotR A 2).toNat:Int) ((rotR A 13).toNat:Int)=(l.toNat:Int)/\Hid (l=(rotR A 2) ^^^ (rotR A 13)):=⟨_,pcm _ _,rfl⟩
       obtain ⟨m2,bn,aC⟩:∃ l:W32,bits .xor .u32 (Z.toNat:Int) ((rotR A 22).toNat:Int)=(l.toNat:Int)/\Hid (l=Z ^^^ (rotR A 22)):=⟨_,pcm _ _,rfl⟩
       obtain ⟨m3,bj,aK⟩:∃ l:W32,bits .and .u32 (A.toNat:Int) (B.toNat:Int)=(l.toNat:Int)/\Hid (l=A &&& B):=⟨_,pgP _ _,rfl⟩
       obtain ⟨m4,b5,bp⟩:∃ l:W32,bits .and .u32 (A.toNat:Int) (C.toNat:Int)=(l.toNat:Int)/\Hid (l=A &&& C):=⟨_,pgP _ _,rfl⟩
       obtain ⟨m5,ck,br⟩:∃ l:W32,bits .xor .u32 (m3.toNat:Int) (m4.toNat:Int)=(l.toNat:Int)/\Hid (l=m3 ^^^ m4):=⟨_,pcm _ _,rfl⟩
       obtain ⟨m6,cd,bc⟩:∃ l:W32,bits .and .u32 (B.toNat:Int) (C.toNat:Int)=(l.toNat:Int)/\Hid (l=B &&& C):=⟨_,pgP _ _,rfl⟩
       obtain ⟨m7,bZ,bz⟩:∃ l:W32,bits .xor .u32 (m5.toNat:Int) (m6.toNat:Int)=(l.toNat:Int)/\Hid (l=m5 ^^^ m6):=⟨_,pcm _ _,rfl⟩
       obtain ⟨m8,cb,bl⟩:∃ l:W32,((m2.toNat:Int)+(m7.toNat:Int)) % 4294967296=(l.toNat:Int)/\Hid (l=m2+m7):=⟨_,pd6 _ _,rfl⟩
       obtain ⟨n1,b4,bk⟩:∃ l:W32,((D.toNat:Int)+(ad.toNat:Int)) % 4294967296=(l.toNat:Int)/\Hid (l=D+ad):=⟨_,pd6 _ _,rfl⟩
       obtain ⟨n2,b3,bx⟩:∃ l:W32,((ad.toNat:Int)+(m8.toNat:Int)) % 4294967296=(l.toNat:Int)/\Hid (l=ad+m8):=⟨_,pd6 _ _,rfl⟩
       go_wp2_with fail;go_quiet ((go_at_call 284;exact pf9 (pox _ _ _ (by omega))));have ap:=j.drewN nq;clear j c0 c1 c2 c3 c4 c5 c6 c7 q1 S;obtain ⟨c0,c1,c2,c3,c4,c5,c6,c7⟩:=ap.cells;generalize wr.drewN nq=wr2 at *;go_wp2_with fail;go_quiet ((go_at_call 284;exact pf9 (pox _ _ _ (by omega))));have t:=ap.drewN nq;clear ap c0 c1 c2 c3 c4 c5 c6 c7;obtain ⟨c0,c1,c2,c3,c4,c5,c6,c7⟩:=t.cells;have z0:=t.fz 0;have z1:=t.fz 1;have z2:=t.fz 2;have z3:=t.fz 3;have z4:=t.fz 4;have z5:=t.fz 5;have z6:=t.fz 6;have z7:=t.fz 7;generalize wr2.drewN nq=wr3 at *;go_wp2_with fail;refine ⟨⟨k+1,n2,A,B,C,n1,E,F,P,by go_num,by omega,t.store,?_⟩,by simp [intOf];omega⟩;show _=_;rw [pfT,ag.out,<-a0.out.1,<-a0.out.2];simp only [pr9,St.mk.injEq,uZ,true_and];have g1:ad=H+big1 E+chW E F P+K+Wd:=by rw [bb.out,bd.out,bC.out,bi.out,bw.out,aO.out,au.out,aG.out,av.out,aA.out];rfl
       have g2:m8=big0 A+majW A B C:=by rw [bl.out,bz.out,bc.out,br.out,bp.out,aK.out,aC.out,ay.out];rfl
       exact ⟨by rw [bx.out,g1,g2],by rw [bk.out,g1]⟩
     · have W:(k:Int)=64:=by omega
       have ab:k=64:=by omega
       rw [ab] at ag;rw [W];clear u hk W ab;obtain ⟨X,hX⟩:∃ X:St,X=⟨A,B,C,D,E,F,P,H⟩:=⟨_,rfl⟩
       rw [<-hX] at j ag;have ht:=BlkT.start j;clear j hX;go_wp2;go_loopw [16] (fun i wr=>∃ k:Nat,i=.int .i64 (k:Int)/\k<=8/\BlkT w wr Gv V X k) (fun i _=>8 - (intOf i).toNat)
       case atStart=>exact ⟨0,rfl,xu _,ht⟩
       case round =>
        clear ht;obtain ⟨k,rfl,hk,j⟩:=hrel;by_cases u:k<8
        · have q1:wr.cell? ⟨w.heap.size,k,none⟩=some (.int .u32 ((V.l.getD k 0).toNat:Int)):=by
           have:=pao _ _ k _ _ j.hs (by rw [pkA];exact u);rw [psm _ _ _ u] at this;exact this
          have S:wr.cell? ⟨Gv,k,none⟩=some (.int .u32 ((X.l.getD k 0).toNat:Int)):=pao _ _ k _ _ j.hv (by simp [St.l];omega);have qf:wr.frozen? ⟨w.heap.size,k,none⟩=false:=xp _ _ _ _ _ j.hs;obtain ⟨x1,aD⟩:=az (V.l.getD k 0);obtain ⟨r,M⟩:=az (X.l.getD k 0);rw [<-aD] at q1;rw [<-M] at S;obtain ⟨y,ey,dy⟩:∃ l:W32,IntKind.u32.wrap ((x1.toNat:Int)+(r.toNat:Int))=(l.toNat:Int)/\Hid (l=x1+r):=⟨_,addW _ _,rfl⟩
          have HY:Hid (y=V.l.getD k 0+X.l.getD k 0):=by show _=_;rw [dy.out,aD,M]
          clear aD M dy;have k8:(k:Int)<8:=by omega
          go_wp2_with fail;go_still_tail 9,(by kernel_rfl)
          go_wp2_with fail;exact ⟨⟨k+1,by go_num,by omega,j.set u y HY.out⟩,by simp [intOf];omega⟩
        · have a4:(k:Int)=8:=by omega
          have a5:k=8:=by omega
          rw [a5] at j;rw [a4];clear u hk a4 a5;obtain ⟨o0,aH⟩:=az ((addS V X).l.getD 0 0);obtain ⟨o1,aE⟩:=az ((addS V X).l.getD 1 0);obtain ⟨o2,aI⟩:=az ((addS V X).l.getD 2 0);obtain ⟨o3,aM⟩:=az ((addS V X).l.getD 3 0);obtain ⟨o4,aF⟩:=az ((addS V X).l.getD 4 0);obtain ⟨o5,aR⟩:=az ((addS V X).l.getD 5 0);obtain ⟨o6,aN⟩:=az ((addS V X).l.getD 6 0);obtain ⟨o7,aL⟩:=az ((addS V X).l.getD 7 0);have s0:wr.cell? ⟨w.heap.size,0,none⟩=some (.int .u32 (o0.toNat:Int)):=by rw [aH];exact pao _ _ 0 _ _ j.hs (by simp [St.l])
          have s1:wr.cell? ⟨w.heap.size,1,none⟩=some (.int .u32 (o1.toNat:Int)):=by rw [aE];exact pao _ _ 1 _ _ j.hs (by simp [St.l])
          have s2:wr.cell? ⟨w.heap.size,2,none⟩=some (.int .u32 (o2.toNat:Int)):=by rw [aI];exact pao _ _ 2 _ _ j.hs (by simp [St.l])
          have s3:wr.cell? ⟨w.heap.size,3,none⟩=some (.int .u32 (o3.toNat:Int)):=by rw [aM];exact pao _ _ 3 _ _ j.hs (by simp [St.l])
          have s4:wr.cell? ⟨w.heap.size,4,none⟩=some (.int .u32 (o4.toNat:Int)):=by rw [aF];exact pao _ _ 4 _ _ j.hs (by simp [St.l])
          have s5:wr.cell? ⟨w.heap.size,5,none⟩=some (.int .u32 (o5.toNat:Int)):=by rw [aR];exact pao _ _ 5 _ _ j.hs (by simp [St.l])
          have s6:wr.cell? ⟨w.heap.size,6,none⟩=some (.int .u32 (o6.toNat:Int)):=by rw [aN];exact pao _ _ 6 _ _ j.hs (by simp [St.l])
          have s7:wr.cell? ⟨w.heap.size,7,none⟩=some (.int .u32 (o7.toNat:Int)):=by rw [aL];exact pao _ _ 7 _ _ j.hs (by simp [St.l])
          have z0:wr.cell? ⟨w.heap.size+1,0,none⟩=some (.int .u32 0):=pao _ _ 0 _ _ j.hr (by simp);have f0:wr.frozen? ⟨w.heap.size+1,0,none⟩=false:=xp _ _ _ _ _ j.hr;have z1:wr.cell? ⟨w.heap.size+1,1,none⟩=some (.int .u32 0):=pao _ _ 1 _ _ j.hr (by simp);have f1:wr.frozen? ⟨w.heap.size+1,1,none⟩=false:=xp _ _ _ _ _ j.hr;have z2:wr.cell? ⟨w.heap.size+1,2,none⟩=some (.int .u32 0):=pao _ _ 2 _ _ j.hr (by simp);have f2:wr.frozen? ⟨w.heap.size+1,2,none⟩=false:=xp _ _ _ _ _ j.hr;have z3:wr.cell? ⟨w.heap.size+1,3,none⟩=some (.int .u32 0):=pao _ _ 3 _ _ j.hr (by simp);have f3:wr.frozen? ⟨w.heap.size+1,3,none⟩=false:=xp _ _ _ _ _ j.hr;have z4:wr.cell? ⟨w.heap.size+1,4,none⟩=some (.int .u32 0):=pao _ _ 4 _ _ j.hr (by simp);have f4:wr.frozen? ⟨w.heap.size+1,4,none⟩=false:=xp _ _ _ _ _ j.hr;have z5:wr.cell? ⟨w.heap.size+1,5,none⟩=some (.int .u32 0):=pao _ _ 5 _ _ j.hr (by simp);have f5:wr.frozen? ⟨w.heap.size+1,5,none⟩=false:=xp _ _ _ _ _ j.hr;have z6:wr.cell? ⟨w.heap.size+1,6,none⟩=some (.int .u32 0):=pao _ _ 6 _ _ j.hr (by simp);have f6:wr.frozen? ⟨w.heap.size+1,6,none⟩=false:=xp _ _ _ _ _ j.hr;have z7:wr.cell? ⟨w.heap.size+1,7,none⟩=some (.int .u32 0):=pao _ _ 7 _ _ j.hr (by simp);have f7:wr.frozen? ⟨w.heap.size+1,7,none⟩=false:=xp _ _ _ _ _ j.hr;have HO:Hid (addS V X=⟨o0,o1,o2,o3,o4,o5,o6,o7⟩):=by show _=_;rw [aH,aE,aI,aM,aF,aR,aN,aL];rfl
          clear aH aE aI aM aF aR aN aL;go_wp2_with fail;refine xI (v:=.agg #[.int .u32 (o0.toNat:Int),.int .u32 (o1.toNat:Int),.int .u32 (o2.toNat:Int),.int .u32 (o3.toNat:Int),.int .u32 (o4.toNat:Int),.int .u32 (o5.toNat:Int),.int .u32 (o6.toNat:Int),.int .u32 (o7.toNat:Int)]) (by simp [results,Tryz.results244,go_sem,z0,z1,z2,z3,z4,z5,z6,z7]) rfl ⟨?_,?_⟩
          · rw [HV.out,mixS,<-bD.out,<-o.out,ag.out,HO.out];rfl
          · have O:w.heap.size<=w.heap.size+1:=by omega
            exact (((((((j.up.setNew (p:=⟨_,_,none⟩) O _).setNew (p:=⟨_,_,none⟩) O _).setNew (p:=⟨_,_,none⟩) O _).setNew (p:=⟨_,_,none⟩) O _).setNew (p:=⟨_,_,none⟩) O _).setNew (p:=⟨_,_,none⟩) O _).setNew (p:=⟨_,_,none⟩) O _).setNew (p:=⟨_,_,none⟩) O _
theorem psn (A B C D E F G H s w) (k:s.size=64) :
 Calls prog 244 #[.agg #[.int .u32 (A.toNat:Int),.int .u32 (B.toNat:Int),.int .u32 (C.toNat:Int),.int .u32 (D.toNat:Int),.int .u32 (E.toNat:Int),.int .u32 (F.toNat:Int),.int .u32 (G.toNat:Int),.int .u32 (H.toNat:Int)],.string s] w (fun e w'=>∃ d B' c h a g j f,Hid (mixS ⟨A,B,C,D,E,F,G,H⟩ (bs s)=⟨d,B',c,h,a,g,j,f⟩)/\e=.returned (.agg #[.int .u32 (d.toNat:Int),.int .u32 (B'.toNat:Int),.int .u32 (c.toNat:Int),.int .u32 (h.toNat:Int),.int .u32 (a.toNat:Int),.int .u32 (g.toNat:Int),.int .u32 (j.toNat:Int),.int .u32 (f.toNat:Int)])/\Uq w w'):=by
 refine (poz ⟨A,B,C,D,E,F,G,H⟩ s w k).mono ?_;rintro e w' ⟨rfl,m⟩;obtain ⟨V,n⟩:=az (mixS ⟨A,B,C,D,E,F,G,H⟩ (bs s));obtain ⟨d,B',c,h,a,g,j,f⟩:=V;rw [<-n];exact ⟨d,B',c,h,a,g,j,f,rfl,rfl,m⟩
theorem phW (s w) (hs:s.size<=281474976710656) :
 Calls prog 190 #[.string s] w (Mk (.agg (byteVals (sha (bs s))).toArray) w):=by
 obtain ⟨V,hV⟩:=az (pem);have h0:=SumW.start w pem;have aJ:=ah hV;clear hV;obtain ⟨R,Q⟩:=az (Value.agg (byteVals (sha (bs s))).toArray);rw [<-Q];have aw:=ah Q;clear Q;go_in;go_wp2_with fail;refine (pmY s _ hs).mono ?_;rintro e w3 ⟨T,HT,rfl,ar⟩;have ai:=SumW.upd h0 ar;clear h0;have O:T.size=(padS (bs s)).length:=by rw [<-pac,HT.out]
 obtain ⟨m,af⟩:∃ m,T.size=64 * m:=by
  refine ⟨T.size / 64,?_⟩;have:=plu (bs s);omega
 have aH:T.size<=281474976711000:=by
  rw [O,pc2,pac,pcz];omega
 have ax:=ah O;have z:=ah af;clear O;have r:(T.size:Int)=64 * (m:Int):=by omega
 clear af;go_wp2;go_loopw [5] (fun i wr=>∃ (k j:Nat) (x:St),i=.int .i64 (k:Int)/\k=64 * j/\j<=m/\SumW w wr x/\Hid (x=pfb pem (padS (bs s)) j)) (fun i _=>64 * m - (intOf i).toNat)
 case atStart=>exact ⟨0,0,_,rfl,rfl,xu _,ai,rfl⟩
 case round =>
  clear ai r;obtain ⟨k,j,⟨A,B,C,D,E,F,G,H⟩,rfl,K,an,a,W⟩:=hrel;have r:T.size=64 * m:=z.out;by_cases q:j<m
  · obtain ⟨c0,c1,c2,c3,c4,c5,c6,c7⟩:=a.cells;obtain ⟨f,n⟩:=az (k+64);have i64:IntKind.i64.wrap ((k:Int)+64)=(f:Int):=by rw [pam (by omega) (by omega)];omega
    have b1:(f:Int)<=(T.size:Int):=by omega
    have b2:(k:Int)<=(f:Int):=by omega
    have b3:k<=f:=by omega
    have b4:f<=T.size:=by omega
    have b5:k<T.size:=by omega
    have h:=ah (xf K n);have aj:(T.extract k f).size=64:=by simp [ByteArray.size_extract];omega
    clear K n r;have av:=ah aj;clear aj;go_wp2_with fail;go_still_tail 6,(by kernel_rfl)
    go_wp2_with fail;refine (psn A B C D E F G H _ _ av.out).mono ?_;rintro e w5 ⟨A',B',C',D',E',F',G',H',HM,rfl,aB⟩;have d:=a.drew.upd aB;obtain ⟨d0,d1,d2,d3,d4,d5,d6,d7⟩:=d.cells;have z0:=d.fz 0;have z1:=d.fz 1;have z2:=d.fz 2;have z3:=d.fz 3;have z4:=d.fz 4;have z5:=d.fz 5;have z6:=d.fz 6;have z7:=d.fz 7;go_wp2_with fail;refine ⟨⟨f,j+1,_,rfl,by have:=h.out.1;have:=h.out.2;omega,by omega,d.store,?_⟩,?_⟩
    · show _=_;rw [pfb,<-W.out,<-HM.out,pbc,h.out.2,h.out.1,HT.out,show 64 * j+64 - 64 * j=64 by omega]
    · have:=h.out.1;have:=h.out.2;have:=z.out;simp [intOf];omega
  · have n:(k:Int)=(T.size:Int):=by omega
    obtain rfl:j=m:=by omega
    rw [n];clear q K n an r;obtain ⟨X,hX⟩:∃ X:St,X=⟨A,B,C,D,E,F,G,H⟩:=⟨_,rfl⟩
    rw [<-hX] at a W;have h9:(wr.alloc (.cells (byteVals (List.replicate 32 0)).toArray 60)).heap[wr.heap.size]? =some (.cells (byteVals (List.replicate 32 0)).toArray 60 (0,0)):=xi _ _;have al:=a.upd ((Upd.refl [] wr).alloc (.cells (byteVals (List.replicate 32 0)).toArray 60));have au:w.heap.size+1<wr.heap.size:=(xq.1 a.hs).1;have H9:=ah h9;clear hX h9 a;generalize hg:wr.heap.size=g at *;go_wp2;go_loopw [7] (fun i wr=>∃ k:Nat,i=.int .i64 (k:Int)/\k<=32/\SumW w wr X/\Hid (wr.heap[g]? =some (.cells (byteVals ((outS X).take k ++ List.replicate (32 - k) 0)).toArray 60 (0,0)))) (fun i _=>32 - (intOf i).toNat)
    case atStart=>exact ⟨0,rfl,xu _,al,H9.out⟩
    case round =>
     clear al H9 hg;obtain ⟨k,rfl,hk,a,o⟩:=hrel;by_cases q:k<32
     · obtain ⟨j,Y⟩:=az (k / 4);obtain ⟨u,y⟩:=az (k % 4);obtain ⟨m8,ag⟩:=az (u * 8);obtain ⟨c,N⟩:∃ c,c=8 * (3 - u):=⟨_,rfl⟩
       have q1:=a.st (k:=j) (by omega);obtain ⟨x,t⟩:=az (X.l.getD j 0);rw [<-t] at q1;have i1:IntKind.i64.wrap ((k:Int) / 4)=(j:Int):=by rw [pam (by omega) (by omega)];omega
       have i2:IntKind.i64.wrap ((k:Int) % 4)=(u:Int):=by rw [pam (by omega) (by omega)];omega
       have i3:IntKind.i64.wrap ((u:Int) * 8)=(m8:Int):=by rw [pam (by omega) (by omega)];omega
       have i4:IntKind.i64.wrap (24 - (m8:Int))=(c:Int):=by rw [pam (by omega) (by omega)];omega
       have j8:(j:Int)<8:=by omega
       have aL:(k:Int)<32:=by omega
       have ay:∃ v0,wr.cell? ⟨g,k,none⟩=some v0:=by
        rw [xa wr g k _ _ _ o.out];exact ⟨_,yv (by simp [byteVals,pa2];omega)⟩
       obtain ⟨v0,aI⟩:=ay;have aM:wr.frozen? ⟨g,k,none⟩=false:=xp wr g k _ _ o.out;have U:=xg wr g k _ _ (pbj (UInt8.ofNat (x.toNat / 2 ^ c))) o.out;rw [piG X k x c q (by rw [t,Y]) (by rw [N,y])] at U;have H3:=ah U;have HK:=ah (xf Y (xf y (xf ag N)));have aK:=ah t;clear U Y y ag N t;go_wp2_with fail;have ap:8 * (3 - k % 4)=c:=by have:=HK.out;omega
       rw [ap];have aC:Value.int .u8 ((x.toNat:Int) / 2 ^ c % 256)=pbj (UInt8.ofNat (x.toNat / 2 ^ c)):=by
        show _=Value.int .u8 ((((UInt8.ofNat (x.toNat / 2 ^ c)).toNat:Nat)):Int);have:(UInt8.ofNat (x.toNat / 2 ^ c)).toNat=x.toNat / 2 ^ c % 256:=by simp
        rw [this];simp
       rw [aC];have aG:w.heap.size+1<g:=au;refine ⟨⟨k+1,by go_num,by omega,⟨?_,?_,a.up.setNew (by show w.heap.size<=g;omega) _⟩,H3.out⟩,by simp [intOf];omega⟩
       · rw [xE _ _ _ _ (by show w.heap.size≠g;omega)];exact a.hr
       · rw [xE _ _ _ _ (by show w.heap.size+1≠g;omega)];exact a.hs
     · have ab:k=32:=by omega
       have Z:(k:Int)=32:=by omega
       have J:=o.out;rw [ab,xy (by rw [pa2];omega),yC,zg,yl] at J;have ak:=ah J;rw [Z];clear q hk ab Z J o;obtain ⟨cs,p⟩:=az ((byteVals (outS X)).toArray);have P:cs.size=32:=by rw [p];simp [byteVals,pa2]
       have ad:cs.all (·.oneCell')=true:=by
        rw [yg];intro v hv;rw [p] at hv;exact paL _ v (by simpa using hv)
       have M:=ak.out;rw [<-p] at M;have aE:=ah p;have aD:=ah ad;have am:=ah (xf P M);have aF:=ah a.hr;have ao:=ah a.up;have ac:(wr.setRow w.heap.size cs).heap[w.heap.size]? =some (.cells cs 60 (0,0)):=xz wr w.heap.size _ _ _ _ a.hr;have aq:=ah ac;have aa:(prog.info? 60).map (·.size)=some cs.size:=by rw [P];kernel_rfl
       have S:=ah aa;clear p ad P ak M ac aa a;go_wp2_with (first | (refine bL am.out.2 underlying60 S ?_) | (refine yH rfl 60 _ _ rfl w.heap.size cs rfl rfl _ _ aF.out S.out (by rw [am.out.1];simp [byteVals]) aD.out ?_))
       refine bE aq underlying60 S ⟨?_,ao.out.setRowNew (xj _) cs⟩;have aA:(padS (bs s)).length / 64=j:=by
        have e1:=ax.out;have e2:=z.out;omega
       rw [aw.out,aE.out,W.out,sha,aA]
end Go.Proofs.YtkhjolbbpdaplaaGreatDoor
