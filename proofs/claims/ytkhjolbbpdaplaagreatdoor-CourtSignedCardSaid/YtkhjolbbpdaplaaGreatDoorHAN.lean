/- nat: slices of digits to the base 2^32 and what follows. -/
import Derived.Test.YtkhjolbbpdaplaaGreatDoorHAM
namespace Go.Proofs.YtkhjolbbpdaplaaGreatDoor
set_option maxHeartbeats 2000000
open Go.RowKit Go.Proofs.Tryz
set_option maxRecDepth 100000
abbrev yN:=@List.drop_of_length_le
abbrev zD:=@Value.slice.injEq
abbrev zS:=@List.length_set
abbrev zT:=@Nat.lt_trans
def wV (d:Nat):Value:=.int .u32 (d:Int)
def pcT (l:List Nat):List Value:=l.map wV
def Wd (w:World) (v:Value) (l:List Nat):Prop:=∃ ao cap,v=.slice ao l.length cap/\l.length<=cap/\cap<=maxLen/\(l.length=0\/∃ b,ao=some ⟨b,0,none⟩/\b<w.heap.size/\∀ (j d:Nat),l[j]? =some d->w.cell? ⟨b,j,none⟩=some (.int .u32 (d:Int)))
theorem Wd.nil (w):Wd w (.slice none 0 0) []:=⟨none,0,rfl,xj _,by simp,.inl rfl⟩
theorem Wd.upd {w w' v l} (h:Wd w v l) (u:Uq w w'):Wd w' v l:=by
 obtain ⟨f,e,rfl,h1,g,a⟩:=h;refine ⟨f,e,rfl,h1,g,?_⟩;rcases a with a | ⟨b,rfl,c,m⟩
 · exact .inl a
 · exact .inr ⟨b,rfl,xA c u.size,fun j d k=>(u.cell c (by simp)).trans (m j d k)⟩
def wLen:Value->Nat
 | .slice _ n _=>n
 | _=>0
theorem ph7 (v l w) (h:Wd w v l) (P:okW l):Calls prog 121 #[v] w (fun e w'=>∃ z,Hid (Wd w z (dw (valW l))/\foot z=foot v)/\e=.returned z/\w=w'):=by
 obtain ⟨f,t,rfl,h1,Q,p⟩:=h;obtain ⟨n,o⟩:=az (l.length);rw [<-o] at h1 p;rw [<-o];unfold maxLen at Q;have H:=ah p;have A:=ah o;clear p o;go_in;go_wp2;go_loop [0] (fun v=>∃ m:Nat,v=.slice f m t/\m<=n/\Hid (valW (l.take m)=valW l)) (fun v=>wLen v)
 case atStart=>exact ⟨n,rfl,xj _,by show _=_;rw [A.out,yb]⟩
 case round =>
  obtain ⟨m,rfl,K,y⟩:=hrel;have C:∀ k,k<=n->valW (l.take k)=valW l->(∀ d,(l.take k).getLast? =some d->d≠0)->Wd w (.slice f k t) (dw (valW l)):=by
   intro k T R M;have a:=phi (pq5 P k) M;rw [R] at a;have N:(dw (valW l)).length=k:=by rw [<-a,xQ,<-A.out];omega
   refine ⟨f,t,by rw [N],by omega,by simp only [maxLen];omega,?_⟩;rcases H.out with p | ⟨b,rfl,J,r⟩
   · exact .inl (by omega)
   · refine .inr ⟨b,rfl,J,fun j d q=>r j d ?_⟩;rw [<-a,ul] at q;split at q
     · exact q
     · cases q
  have G:=ah C;clear C;by_cases h0:0<m
  · obtain ⟨k,rfl⟩:∃ k,m=k+1:=⟨m - 1,by omega⟩
    obtain ⟨b,rfl,J,r⟩:∃ b,f=some ⟨b,0,none⟩/\b<w.heap.size/\∀ (j d:Nat),l[j]? =some d->w.cell? ⟨b,j,none⟩=some (.int .u32 (d:Int)):=by
     rcases H.out with h | h
     · omega
     · exact h
    have u:k<l.length:=by have:=A.out;omega
    have O:=r k l[k] (xd u);obtain ⟨d,a⟩:=az (l[k]);rw [<-a] at O;have D:l[k]? =some d:=by rw [a];exact xd u
    have F:=ah D;clear r u a D;have S:((k+1:Nat):Int) - 1=(k:Int):=by omega
    by_cases E:d=0
    · subst E;go_wp2_with fail;refine ⟨⟨k,rfl,by omega,?_⟩,by simp [wLen]⟩;show _=_;rw [<-y.out,phh F.out,poT,vi,zY]
    · have U:((d:Int) == 0)=false:=by rw [xm];omega
      have c:=G.out (k+1) K y.out (fun x g=>by
       rw [phh F.out,List.getLast?_concat] at g;simp only [yz] at g;omega)
      have B:=ah c;clear c E;go_wp2;go_ret;exact ⟨_,⟨B.out,rfl⟩,rfl,rfl⟩
  · obtain rfl:m=0:=by omega
    have c:=G.out 0 K y.out (fun x g=>by simp at g);have B:=ah c;clear c;go_wp2;go_ret;exact ⟨_,⟨B.out,by cases f <;> rfl⟩,rfl,rfl⟩
theorem pcU (v l w) (h:Wd w v l) (d:okW l):Calls prog 121 #[v] w (fun e w'=>∃ a,Hid (Wd w a (dw (valW l)))/\e=.returned a/\w=w'):=by
 refine (ph7 v l w h d).mono ?_;rintro e w' ⟨a,c,f,g⟩;exact ⟨a,c.out.1,f,g⟩
theorem Wd.get {w a n g l} (h:Wd w (.slice a n g) l) {k d:Nat} (f:l[k]? =some d):∃ b,a=some ⟨b,0,none⟩/\w.cell? ⟨b,k,none⟩=some (.int .u32 (d:Int)):=by
 obtain ⟨m,p,e,h1,o,c⟩:=h;simp only [zD] at e;obtain ⟨rfl,rfl,rfl⟩:=e;have r:=(xe.1 f).1;rcases c with c | ⟨b,rfl,q,j⟩
 · omega
 · exact ⟨b,rfl,j k d f⟩
theorem Wd.form {w v l} (h:Wd w v l):∃ g a,v=.slice g l.length a/\l.length<=a/\a<=9223372036854775807:=by
 obtain ⟨d,c,e,h1,f,j⟩:=h;exact ⟨d,c,e,h1,f⟩
def pjk (n:Nat) (w:World) (e:Ending) (w':World):Prop:=∃ r:ByteArray,Hid (bs r=be n)/\e=.returned (.string r)/\w=w'
def pde (n:Nat) (w:World) (e:Ending) (w':World):Prop:=∃ r:ByteArray,Hid (bs r=be n)/\e=.returned (.string r)/\Upd [] [] w w'
theorem pkL {b:UInt8} (h:(b.toNat:Int)=0):b=0:=zQ.1 (by have:(0:UInt8).toNat=0:=rfl;omega)
theorem pho (s k) (h:k<s.size):(bs s)[k]? =some s[k]:=by
 have:k<(bs s).length:=h;rw [xd this];rfl
theorem pl5 (s) (h:0<s.size):bs s=s[0] :: (bs s).drop 1:=by
 have a:0<(bs s).length:=h;exact xZ a
theorem pa8 (s w) (h:s.size<=1000000000000):Calls prog 75 #[.string s] w (pjk (natB (bs s)) w):=by
 go_in;go_wp2;go_loop [3] (fun i=>∃ k:Nat,i=.int .i64 (k:Int)/\k<=s.size/\Hid (pcd ((bs s).drop k)=pcd (bs s))) (fun i=>s.size - (intOf i).toNat)
 case atStart=>exact ⟨0,rfl,xu _,rfl⟩
 case round =>
  obtain ⟨k,rfl,j,d⟩:=hrel;by_cases f:k<s.size
  · by_cases h0:(s[k].toNat:Int)=0
    · have g:((s[k].toNat:Int) == 0)=true:=by rw [yW];exact h0
      have a:pcd ((bs s).drop (k+1))=pcd (bs s):=by
       rw [<-phj (by rw [pho s k f,pkL h0]),d.out]
      have c:=ah a;clear a h0;go_wp2_with fail;exact ⟨⟨k+1,by go_num,by omega,c.out⟩,by simp [intOf];omega⟩
    · have g:((s[k].toNat:Int) == 0)=false:=by rw [xm];exact h0
      have a:(bs s).drop k=be (natB (bs s)):=by
       rw [<-peu,<-d.out,phk (pho s k f) (fun e=>h0 (by rw [e];rfl))]
      have c:=ah a;clear a h0;go_wp2;go_ret;refine ⟨s.extract k s.size,?_,rfl,rfl⟩;show _=_;rw [pbc,c.out,<-c.out,xy (by simp [pac])]
  · obtain rfl:k=s.size:=by omega
    have a:be (natB (bs s))=[]:=by
     rw [<-peu,<-d.out,yN (by simp [pac])];rfl
    have c:=ah a;clear a;go_wp2;go_ret;refine ⟨ByteArray.empty,?_,rfl,rfl⟩;show _=_;rw [c.out];rfl
theorem par {r x} (h:bs r=be x):r.size=(be x).length:=by rw [<-h,pac]
theorem ph8 (s x w) (B:s.size<=1000000000000) (h:x=natB (bs s)) (C:x<9223372036854775808) :
 Calls prog 144 #[.string s] w (fun e w'=>e=.returned (.tuple #[.int .i64 (x:Int),.bool true])/\w=w'):=by
 have E:=ah h;clear h;go_in;go_wp2_with fail;refine (pa8 s w B).mono ?_;rintro e w' ⟨r,j,rfl,rfl⟩;have a:bs r=be x:=by rw [j.out,E.out]
 have F:r.size<=8:=by
  rw [par a];exact paJ 8 x (zT C (by decide))
 have H:=ah a;clear j;have c:natB (bs r)=x:=by rw [a,paK]
 have q:=ah c;clear a;by_cases o:r.size=8
 case' pos =>
  have f:0<r.size:=by omega
  have h0:(r[0]'f).toNat<=127:=by
   have h1:=pgk (r[0]'f) ((bs r).drop 1);have t:=pl5 r f;have D:(bs r).length=8:=o;rw [<-t,c,zJ,D] at h1;have e:(256:Nat) ^ (8 - 1)=72057594037927936:=by decide
   rw [e] at h1;omega
  have v:((r.size:Int) == 8)=true:=by rw [yW];omega
 case' neg =>
  have v:((r.size:Int) == 8)=false:=by rw [xm];omega
 all_goals
  clear c o;go_wp2;go_loop [4,5] (fun n i=>∃ k m:Nat,n=.int .i64 (m:Int)/\i=.int .i64 (k:Int)/\k<=r.size/\m<=x/\Hid (m=natB ((bs r).take k))) (fun _ i=>r.size - (intOf i).toNat)
  case atStart=>exact ⟨0,0,rfl,rfl,xu _,xu _,rfl⟩
  case round =>
   obtain ⟨k,m,rfl,rfl,G,J,p⟩:=hrel;by_cases u:k<r.size
   · have d:natB ((bs r).take (k+1))=m * 256+r[k].toNat:=by
      rw [pew (pho r k u),pbz,<-p.out]
     have z:m * 256+r[k].toNat<=x:=by
      rw [<-d,<-q.out];exact pjf _ _
     have A:=ah d;have h1:(m:Int) * 256<=9223372036854775807:=by omega
     have t:(m:Int) * 256+(r[k].toNat:Int)<=9223372036854775807:=by omega
     clear d;go_wp2_with fail;exact ⟨⟨k+1,m * 256+r[k].toNat,by go_num,by go_num,by omega,z,A.out.symm⟩,by simp [intOf];omega⟩
   · obtain rfl:k=r.size:=by omega
     have g:m=x:=by rw [p.out,xy (by simp [pac]),q.out]
     have y:=ah g;clear g;go_wp2;go_ret2;refine ⟨?_,rfl⟩;rw [y.out];rfl
theorem ph9 (s x w) (f:s.size<=1000000000000) (a:x=natB (bs s)) (c:(be x).length<=7) :
 Calls prog 78 #[.string s,.int .i64 7] w (fun e w'=>e=.returned (.tuple #[.int .i64 (x:Int),.bool true])/\w=w'):=by
 have d:=ah a;clear a;have g:x<9223372036854775808:=by
  have:=pda c;have e:(256:Nat) ^ 7=72057594037927936:=by decide
  omega
 go_in;go_wp2_with fail;refine (pa8 s w f).mono ?_;rintro e w' ⟨r,h,rfl,rfl⟩;have j:r.size<=7:=by
  have:=par h.out;rw [<-d.out] at this;omega
 clear c;go_wp2_with fail;refine (ph8 s x w f d.out g).mono ?_;rintro e w' ⟨rfl,rfl⟩;go_wp2;go_ret2;exact ⟨rfl,rfl⟩
theorem po5 (s x w) (g:s.size<=1000000000000) (a:x=natB (bs s)) (c:7<(be x).length) :
 Calls prog 78 #[.string s,.int .i64 7] w (fun e w'=>e=.returned (.tuple #[.int .i64 0,.bool false])/\w=w'):=by
 have d:=ah a;clear a;go_in;go_wp2_with fail;refine (pa8 s w g).mono ?_;rintro e w' ⟨r,f,rfl,rfl⟩;have h:7<r.size:=by
  have:=par f.out;rw [<-d.out] at this;omega
 clear c;go_wp2;go_ret2;exact ⟨rfl,rfl⟩
theorem pbs (n:Nat) (w) (Y:n<9223372036854775808):Calls prog 26 #[n] w (pde n w):=by
 by_cases h0:0<n
 case neg =>
  obtain rfl:n=0:=by omega
  go_in;go_wp2;go_loop [3,4] (fun t i=>t=.slice none 0 0/\i=.int .i64 56) (fun _ _=>0)
  case atStart=>exact ⟨rfl,rfl⟩
  case round =>
   obtain ⟨rfl,rfl⟩:=hrel;have d:=pdK (P:=prog) w 95 42 5 underlying95 underlying5 underlying42 (.slice none 0 0) [] (x9 _ _ _ _);have g:=ah d;clear d;go_wp2_with fail;rw [g.out];go_wp2_with fail;refine (pa8 _ w (by decide)).mono ?_;rintro e w' ⟨r,a,rfl,rfl⟩;go_wp2;go_ret;exact ⟨r,a,rfl,Upd.refl _ _⟩
 go_in;go_wp2;go_loopw [3,4] (fun t i wr=>∃ (k:Nat) (z:Int),i=.int .i64 z/\z=56 - 8 * (k:Int)/\k<=8/\Hid (wr.ownsRow 0 5 1 t k (byteVals ((len8 n).take k)))/\Hid (Upd [] (foot t) w wr)) (fun _ i _=>(intOf i+8).toNat)
 case atStart=>exact ⟨0,56,rfl,rfl,xu _,⟨by simp [byteVals],.inl ⟨rfl,rfl⟩⟩,Upd.refl _ _⟩
 case round =>
  obtain ⟨k,z,rfl,q,R,a,p⟩:=hrel;by_cases N:k<8
  · obtain ⟨m,rfl⟩:∃ m:Nat,z=(m:Int):=⟨(56 - 8 * k),by omega⟩
    obtain ⟨b,o⟩:=az (UInt8.ofNat (n / 2 ^ m));have hb1:(n:Int) / 2 ^ m % 256=(b.toNat:Int):=by
     have:(UInt8.ofNat (n / 2 ^ m)).toNat=n / 2 ^ m % 256:=by simp
     rw [o,this];simp
    have W:m<=56:=by omega
    have F:(len8 n).take (k+1)=(len8 n).take k ++ [b]:=by
     rw [zn (by rw [pau];omega)];congr 1;rw [o];have U:m=8 * (7 - k):=by omega
     simp [len8,U]
    have S:=ah F;have O:=ah q;have c:=a.out;have D:=p.out;have A:(wr.alloc (.cells #[.int .u8 (b.toNat:Int)] 5)).ownsRow 0 5 1 u3 k (byteVals ((len8 n).take k)):=paj c (fun j f=>xY _ _ _ (pag c j f));have E:(wr.alloc (.cells #[.int .u8 (b.toNat:Int)] 5)).heap[wr.heap.size]? =some (.cells #[.int .u8 (b.toNat:Int)] 5 (0,0)):=xi _ _;obtain ⟨T,H,G,B,J⟩:=pdP;obtain ⟨X,w',x,v,y⟩:=pa0 (P:=prog) (wr.alloc (.cells #[.int .u8 (b.toNat:Int)] 5)) 95 95 5 T (.int .u8 0) 1 1 underlying95 H G B J rfl (by omega) u3 k _ A ⟨wr.heap.size,0,none⟩ 1 1 [pbj b] rfl (by
     intro j u f;have:j=0:=by
      cases j with
      | zero=>rfl
      | succ j=>simp at f
     subst this;simp only [yh,yz] at f;subst f;have e:(⟨wr.heap.size,0,none⟩:Addr).add 0=⟨wr.heap.size,0,none⟩:=by simp [Addr.add]
     rw [e,xa _ _ _ _ _ _ E];rfl) (paL [b]) (by omega) (by simp only [maxLen];omega)
    have K:=ah x;have M:=ah v;have Q:=ah ((D.alloc (.cells #[.int .u8 (b.toNat:Int)] 5)).trans y);clear H G B J;clear o q F c D A E x v y a p;go_wp2_with (refine bN K ?_)
    refine ⟨⟨k+1,_,rfl,?_,by omega,?_,Q.out⟩,?_⟩
    · have:=O.out;omega
    · show World.ownsRow _ _ _ _ _ _ _;rw [S.out,pa6];exact M.out
    · first | (simp [intOf];done) | (simp [intOf];omega)
  · obtain rfl:z=-8:=by omega
    have C:k=8:=by omega
    have c:=a.out;rw [C,xy (by rw [pau];omega)] at c;have d:=pdK (P:=prog) wr 95 42 5 underlying95 underlying5 underlying42 u3 (len8 n) (by rw [pau];exact c);have g:=ah d;clear N q R C c d a;go_wp2_with fail;rw [g.out];go_wp2_with fail;refine (pa8 _ wr (by show (len8 n).length<=_;rw [pau];omega)).mono ?_;rintro e w' ⟨r,a,rfl,rfl⟩;go_wp2;go_ret;refine ⟨r,?_,rfl,p.out.mono (fun _ h=>h) (fun _ h=>absurd h (by simp))⟩;show _=_;rw [a.out,pcM,poX n (by omega)]
def prY:Value->Nat
 | .string t=>t.size
 | _=>0
theorem pjl (s w) (q:s.size<=1000000000000):Calls prog 229 #[.string s,.int .u8 0] w (pjk (natB (bs s)) w):=by
 go_in;go_wp2;go_loop [0] (fun v=>∃ (k:Nat) (t:ByteArray),v=.string t/\k<=s.size/\Hid (bs t=(bs s).drop k)/\t.size=s.size - k/\Hid (pcd ((bs s).drop k)=pcd (bs s))) (fun v=>prY v)
 case atStart=>exact ⟨0,s,rfl,xu _,by simp [Hid],by omega,rfl⟩
 case round =>
  obtain ⟨k,t,rfl,r,d,m,g⟩:=hrel;by_cases n:0<t.size
  · have p:k<s.size:=by omega
    have f:(bs s)[k]? =some t[0]:=by
     have h1:=pho t 0 n;rw [d.out,zL,zY] at h1;exact h1
    by_cases h0:(t[0].toNat:Int)=0
    · have o:((t[0].toNat:Int) == 0)=true:=by rw [yW];exact h0
      have a:pcd ((bs s).drop (k+1))=pcd (bs s):=by
       rw [<-phj (by rw [f,pkL h0]),g.out]
      have h:bs (t.extract 1 t.size)=(bs s).drop (k+1):=by
       rw [pbc,d.out,List.drop_drop,xy (by simp [pac];omega),Nat.add_comm]
      have c:=ah a;have j:=ah h;clear a h0 h f;go_wp2_with fail;rw [m] at j;exact ⟨⟨k+1,_,rfl,by omega,j,by rw [zH];omega,c⟩,by simp [prY,ByteArray.size_extract];omega⟩
    · have o:((t[0].toNat:Int) == 0)=false:=by rw [xm];exact h0
      have a:(bs s).drop k=be (natB (bs s)):=by
       rw [<-peu,<-g.out,phk f (fun e=>h0 (by rw [e];rfl))]
      have c:=ah a;clear a h0 f;go_wp2;go_ret;exact ⟨t,by show _=_;rw [d.out,c.out],rfl,rfl⟩
  · obtain rfl:k=s.size:=by omega
    have a:be (natB (bs s))=[]:=by
     rw [<-peu,<-g.out,yN (by simp [pac])];rfl
    have c:=ah a;clear a;go_wp2;go_ret;exact ⟨t,by show _=_;rw [d.out,c.out,yN (by simp [pac])],rfl,rfl⟩
theorem po6 (s w) (f:s.size<=1000000000000):Calls prog 120 #[.string s] w (pjk (natB (bs s)) w):=by
 have a:=ah (pjl s w f);have d:Hid (Calls prog 178 #[.string s,.string ⟨#[0]⟩] w (pjk (natB (bs s)) w)):=by
  by_cases h0:s=⟨#[]⟩
  · subst h0;clear a;go_enter func178,ntmps178;go_wp2;go_ret;exact ⟨_,by show _=_;exact pa3.symm,rfl,rfl⟩
  · have g:s.toList.isEmpty=false:=by
     rw [Bool.eq_false_iff,ne_eq,List.isEmpty_iff];exact fun e=>h0 (paT (by rw [yi] at e;exact e))
    go_enter func178,ntmps178;go_wp2_with fail;refine a.out.mono ?_;rintro e w' ⟨r,c,rfl,rfl⟩;go_wp2;go_ret;exact ⟨r,c,rfl,rfl⟩
 clear a;go_enter func120,ntmps120;go_wp2_with fail;refine d.out.mono ?_;rintro e w' ⟨r,c,rfl,rfl⟩;go_wp2;go_ret;exact ⟨r,c,rfl,rfl⟩
theorem po7:∃ i,prog.info? 163=some i/\i.zero=some (.int .u32 0)/\i.size=1/\i.bytes=4:=by
 have h:(prog.info? 163).map (fun i=>(i.zero,i.size,i.bytes))=some (some (.int .u32 0),1,4):=by kernel_rfl
 obtain ⟨i,c,a⟩:=yp.1 h;simp only [yY] at a;exact ⟨i,c,a⟩
theorem pm7 (k):madeCells (Value.int .u32 0).cells k=(pcT (List.replicate k 0)).toArray:=by
 apply Array.ext
 · simp [madeCells,pcT]
 · intro i h1 a;simp [madeCells,pcT,wV,Value.cells,Nat.mod_one]
theorem pbT (w) (n:Nat) (g:n<=1000000000):(Instr.makeSlice 119 (.int .i64 (n:Int)) (.int .i64 (n:Int))).run prog w=.ok (.slice (some ⟨w.heap.size,0,none⟩) n n) (w.alloc (.cells (pcT (List.replicate n 0)).toArray 163)):=by
 obtain ⟨f,e,d,c,a⟩:=po7;have:=run_make (P:=prog) w 119 163 f (.int .u32 0) underlying119 e d .i64 .i64 n n (by omega) (by omega) (by rw [a];omega) (by omega);rw [this,c];simp only [xW,zf,pm7]
def WB (w:World) (g:Nat) (l:List Nat):Prop:=w.heap[g]? =some (.cells (pcT l).toArray 163 (0,0))
theorem WB.upd {w w' g l} (h:WB w g l) (u:Uq w w'):WB w' g l:=by
 unfold WB at h ⊢;rw [u.block _ (xq.1 h).1 (by simp)];exact h
theorem WB.cell {w g l} (h:WB w g l) {j d:Nat} (a:l[j]? =some d):w.cell? ⟨g,j,none⟩=some (.int .u32 (d:Int)):=by
 rw [xa w g j _ _ _ h,xD];simp [pcT,a,wV]
theorem WB.frozen {w g l} (h:WB w g l) (j):w.frozen? ⟨g,j,none⟩=false:=xp _ _ _ _ _ h
theorem WB.set {w g l} (h:WB w g l) (j d:Nat):WB (w.setCell ⟨g,j,none⟩ (.int .u32 (d:Int))) g (l.set j d):=by
 have:=xg w g j _ _ (.int .u32 (d:Int)) h;unfold WB;rw [this];congr 2;simp [pcT,List.map_set,wV]
theorem WB.slice {w g l} (h:WB w g l) (a:l.length<=maxLen):Wd w (.slice (some ⟨g,0,none⟩) l.length l.length) l :=
 ⟨_,_,rfl,xj _,a,.inr ⟨g,rfl,(xq.1 h).1,fun _ _ c=>h.cell c⟩⟩
theorem pia (s) (p:Nat) (b) (c:(bs s)[p]? =some b) (w):(Instr.index 42 (.string s) (.int .i64 (p:Int))).run prog w=.ok (.int .u8 (b.toNat:Int)) w:=by
 have e:prog.underlying 42=some .string:=underlying42;have h0:(0:Int)<=(p:Int):=by omega
 have a:p<s.size:=(xe.1 c).1;simp only [Instr.index,asIntOf,yT,zW,yr,run_underlying e w];rw [xH h0,xW];have h1:=pho s p a;rw [c] at h1;have d:s[p]? =some b:=by rw [getElem?_pos s p a];exact h1.symm
 rw [d];rfl
theorem or32 {d x r:Nat} (a:d<256 ^ r) (m:x<256) (n:r<4):bits .or .u32 (d:Int) ((x * 256 ^ r:Nat):Int)=((d+x * 256 ^ r:Nat):Int):=by
 have o:d+x * 256 ^ r<4294967296:=by
  have f:r=0\/r=1\/r=2\/r=3:=by omega
  rcases f with rfl | rfl | rfl | rfl
  · simp at a ⊢;omega
  · simp at a ⊢;omega
  · have c:(256:Nat) ^ 2=65536:=by decide
    rw [c] at a ⊢;omega
  · have h:(256:Nat) ^ 3=16777216:=by decide
    rw [h] at a ⊢;omega
 show IntKind.u32.wrap ((BitVec.ofInt 32 (d:Int) ||| BitVec.ofInt 32 ((x * 256 ^ r:Nat):Int)).toNat:Int)=_;have g:(BitVec.ofInt 32 (d:Int)).toNat=d:=by
  rw [yO];show ((d:Int) % 4294967296).toNat=_;omega
 have k:(BitVec.ofInt 32 ((x * 256 ^ r:Nat):Int)).toNat=x * 256 ^ r:=by
  rw [yO];show (((x * 256 ^ r:Nat):Int) % 4294967296).toNat=_;omega
 have j:d ||| x * 256 ^ r=d+x * 256 ^ r:=by
  have e:(256:Nat) ^ r=2 ^ (8 * r):=by rw [zj,p2_8]
  rw [e] at a ⊢;rw [Nat.or_comm,yk x,<-zX a];omega
 rw [uN,g,k,j];show ((d+x * 256 ^ r:Nat):Int) % 4294967296=_;omega
theorem po8 {l:List UInt8} {k b} (c:k<l.length) (a:l[l.length - 1 - k]? =some b):natB (l.drop (l.length - (k+1)))=natB (l.drop (l.length - k))+b.toNat * 256 ^ k:=by
 have e:l.drop (l.length - (k+1))=b :: l.drop (l.length - k):=by
  obtain ⟨h,rfl⟩:=xe.1 a;have:l.length - (k+1)=l.length - 1 - k:=by omega
  rw [this,xZ h,show l.length - 1 - k+1=l.length - k by omega]
 rw [e,pgk,zJ,show l.length - (l.length - k)=k by omega];omega
theorem pjm {l:List UInt8} {k} (a:k<=l.length):natB (l.drop (l.length - k))<256 ^ k:=by
 have:=peU (l.drop (l.length - k))
 rwa [zJ,show l.length - (l.length - k)=k by omega] at this
theorem pbr (s w) (hs:s.size<=1000000000):Calls prog 123 #[.string s] w (fun e w'=>∃ N,Hid (Wd w' N (dw (natB (bs s))))/\e=.returned N/\Uq w w'):=by
 obtain ⟨n,u⟩:=az ((s.size+3) / 4);have ad:=pbT w n (by omega);have P:((s.size:Int)+3) / 4=(n:Int):=by omega
 have ao:n<=1000000000:=by omega
 have Z:=ah u;clear u;go_in;go_wp2_with fail;rw [P];clear P;go_loopw [4,12] (fun _ i wr=>∃ k:Nat,i=.int .i64 (k:Int)/\k<=s.size/\Hid (∃ l,WB wr w.heap.size l/\l.length=n/\okW l/\valW l=natB ((bs s).drop (s.size - k)))/\Hid (Uq w wr)) (fun _ i _=>s.size - (intOf i).toNat)
 case atStart =>
  refine ⟨0,rfl,xu _,⟨_,xi _ _,by simp,po3 _,?_⟩,uR.alloc _⟩;rw [phn,Nat.sub_zero,yN (by simp [pac])];rfl
 case round =>
  obtain ⟨k,rfl,hk,J,Q⟩:=hrel;by_cases X:k<s.size
  · obtain ⟨l,f,g,m,j⟩:=J.out;have u:=Z.out;obtain ⟨p,E⟩:=az (s.size - 1 - k);obtain ⟨b,D⟩:∃ b,(bs s)[p]? =some b:=⟨_,xd (by rw [pac];omega)⟩
    obtain ⟨q,hq⟩:=az (k / 4);obtain ⟨r,R⟩:=az (k % 4);obtain ⟨d,K⟩:∃ d,l[q]? =some d:=⟨_,xd (by omega)⟩
    have B:k=4 * q+r:=by omega
    have W:r<4:=by omega
    have U:b.toNat<256:=b.toNat_lt;have y:(bs s).length=s.size:=rfl;have t:d<256 ^ r:=by
     have h1:=po2 l q d K;have o:natB ((bs s).drop (s.size - k))<256 ^ k:=pjm (by show k<=s.size;omega);have e:(256:Nat) ^ k=4294967296 ^ q * 256 ^ r:=by rw [B,uF,zj,pl3]
     rw [j] at h1;rw [e] at o;exact Nat.lt_of_mul_lt_mul_left (ui h1 o)
    have A:valW (l.set q (d+b.toNat * 256 ^ r))=natB ((bs s).drop (s.size - (k+1))):=by
     have h1:=po8 (l:=bs s) (k:=k) (b:=b) (by rw [y];omega) (by rw [y,<-E];exact D);have e:(256:Nat) ^ k=4294967296 ^ q * 256 ^ r:=by rw [B,uF,zj,pl3]
     rw [y] at h1;rw [pl1 l q d _ K,j,h1,e,Nat.mul_left_comm]
    obtain ⟨a,C⟩:=az (r * 8);obtain ⟨O,M⟩:=az (s.size - 1);have d1:(k:Int) / 4=(q:Int):=by omega
    have aa:(k:Int).tdiv 4=(q:Int):=by rw [xP (by omega)];exact d1
    have aq:IntKind.i64.wrap ((k:Int).tdiv 4)=(q:Int):=by rw [aa];exact pam (by omega) (by omega)
    have wq:IntKind.i64.wrap (q:Int)=(q:Int):=pam (by omega) (by omega);have ag:IntKind.i64.wrap (r:Int)=(r:Int):=pam (by omega) (by omega);have an:IntKind.i64.wrap (a:Int)=(a:Int):=pam (by omega) (by omega);have al:IntKind.i64.wrap (p:Int)=(p:Int):=pam (by omega) (by omega);have d2:(k:Int) % 4=(r:Int):=by omega
    have Y:(k:Int).tmod 4=(r:Int):=by rw [xO (by omega)];exact d2
    have ak:IntKind.i64.wrap ((k:Int).tmod 4)=(r:Int):=by rw [Y];exact pam (by omega) (by omega)
    have d3:(r:Int) * 8=(a:Int):=by omega
    have aj:IntKind.i64.wrap ((r:Int) * 8)=(a:Int):=by rw [d3];exact pam (by omega) (by omega)
    have e1:IntKind.i64.wrap ((s.size:Int) - 1)=(O:Int):=by rw [pam (by omega) (by omega)];omega
    have e2:IntKind.i64.wrap ((O:Int) - (k:Int))=(p:Int):=by rw [pam (by omega) (by omega)];omega
    have c0:=f.cell K;have f0:=f.frozen q;have au:=pia s p b D;have i0:(0:Int)<=(k:Int):=by omega
    have i1:(k:Int)<(s.size:Int):=by omega
    have j0:(0:Int)<=(q:Int):=by omega
    have j1:(q:Int)<(n:Int):=by omega
    have cv:IntKind.u32.wrap (b.toNat:Int)=(b.toNat:Int):=by show (b.toNat:Int) % 4294967296=_;omega
    have r0:(0:Int)<=(a:Int):=by omega
    obtain ⟨h,c⟩:=az (b.toNat * 256 ^ r);obtain ⟨x,z⟩:=az (d+h);have am:bits .or .u32 (d:Int) (h:Int)=(x:Int):=by rw [z,c];exact or32 t U W
    have af:h<4294967296:=by
     rw [c];have F:r=0\/r=1\/r=2\/r=3:=by omega
     have o:(256:Nat) ^ 2=65536:=by decide
     have H:(256:Nat) ^ 3=16777216:=by decide
     rcases F with rfl | rfl | rfl | rfl
     · omega
     · omega
     · rw [o];omega
     · rw [H];omega
    have s1:min a 32=a:=by omega
    have G:(b.toNat:Int) * 2 ^ a=(h:Int):=by
     rw [c,C,vm,uM,yk r 8,Int.pow_mul];rfl
    have s2:(b.toNat:Int) * 2 ^ a % 4294967296=(h:Int):=by rw [G];omega
    have s3:IntKind.u32.wrap ((b.toNat:Int) * 2 ^ a)=(h:Int):=s2;have ar:(b.toNat:Int) % 4294967296=(b.toNat:Int):=by omega
    have ap:Op.shift .shl .u32 (b.toNat:Int) .i64 (a:Int)=pure (.int .u32 (h:Int)):=by
     unfold Op.shift;rw [yy (by omega)];show pure (Value.int .u32 (IntKind.u32.wrap ((b.toNat:Int) * 2 ^ (min a 32))))=_;rw [s1,s3]
    have ac:Hid (∃ l,WB (wr.setCell ⟨w.heap.size,q,none⟩ (.int .u32 (x:Int))).drew w.heap.size l/\l.length=n/\okW l/\valW l=natB ((bs s).drop (s.size - (k+1)))):=by
     refine ⟨l.set q x,(f.set q x).upd uR.drew,by rw [zS];exact g,okW_set m ?_,by rw [z,c];exact A⟩;have F:r=0\/r=1\/r=2\/r=3:=by omega
     have o:(256:Nat) ^ 2=65536:=by decide
     have H:(256:Nat) ^ 3=16777216:=by decide
     rcases F with rfl | rfl | rfl | rfl
     · omega
     · omega
     · rw [o] at t c;omega
     · rw [H] at t c;omega
    have ab:Hid (Uq w (wr.setCell ⟨w.heap.size,q,none⟩ (.int .u32 (x:Int))).drew):=(Q.out.setNew (p:=⟨w.heap.size,q,none⟩) (xj _) _).drew;have HX:=ah (xf c (xf z G));clear c z G;have ai:=ah (xf E (xf hq (xf R (xf C (xf M u)))));have T:=ah (xf A (xf t (xf g m)));have HB:=ah f;clear E hq R C M u A t g m j f D B y;go_wp2_with fail
    (first | go_region_with (fail) | fail)
    all_goals
     go_wp2_with fail;exact ⟨⟨k+1,by go_num,by omega,ac,ab⟩,by simp [intOf];omega⟩
  · obtain rfl:k=s.size:=by omega
    obtain ⟨l,f,g,m,j⟩:=J.out;rw [yC,zN] at j;have S:=ah (pcU _ l wr (f.slice (by rw [g];simp only [maxLen];omega)) m);rw [g,j] at S;clear f g m j X J;go_wp2_with fail;refine S.out.mono ?_;rintro e w1 ⟨v,T,rfl,rfl⟩;go_wp2;go_ret;exact ⟨v,T,rfl,Q.out⟩
theorem Wd.new {w:World} (l) (a:l.length<=maxLen):Wd (w.alloc (.cells (pcT l).toArray 163)) (.slice (some ⟨w.heap.size,0,none⟩) l.length l.length) l :=
 WB.slice (xi _ _) a
theorem po9 (n:Nat) (u:n<18446744073709551616) (w):Calls prog 53 #[.int .u64 (n:Int)] w (fun e w'=>∃ h,Hid (Wd w' h (dw n))/\e=.returned h/\Uq w w'):=by
 obtain ⟨a,m⟩:=az (n % 4294967296);obtain ⟨b,p⟩:=az (n / 4294967296);have x:(n:Int) % 4294967296=(a:Int):=by omega
 have q:(n:Int) / 4294967296=(b:Int):=by omega
 have r:(n:Int).fdiv 4294967296=(b:Int):=by rw [Int.fdiv_eq_ediv_of_nonneg _ (by omega)];exact q
 have y:(b:Int) % 4294967296=(b:Int):=by omega
 have f:=Wd.new (w:=w) [a,b] (by simp [maxLen]);have g:valW [a,b]=n:=by simp [valW];omega
 have c:=pcU _ [a,b] _ f (fun d j=>by simp at j;omega);rw [g] at c;have k:=ah c;clear f g c m p;go_in;go_wp2_with fail;refine k.out.mono ?_;rintro e t ⟨v,o,rfl,rfl⟩;go_wp2;go_ret;exact ⟨v,o,rfl,uR.alloc _⟩
theorem psz {α:Type} (m) (z b:α) (T):(List.replicate (m+1) z ++ T).set m b=List.replicate m z ++ b :: T:=by
 rw [uf,xG,ya _ _ (by simp)];simp
theorem php (w) (n:Nat) (g:n<=1000000000):(Instr.makeSlice 95 (.int .i64 (n:Int)) (.int .i64 (n:Int))).run prog w=.ok (.slice (some ⟨w.heap.size,0,none⟩) n n) (w.alloc (.cells (byteVals (List.replicate n 0)).toArray 5)):=by
 have h:(prog.info? 5).map (fun i=>(i.zero,i.size,i.bytes))=some (some (.int .u8 0),1,1):=by kernel_rfl
 obtain ⟨e,c,a⟩:=yp.1 h;simp only [yY] at a;have:=run_make (P:=prog) w 95 5 e (.int .u8 0) underlying95 c a.1 .i64 .i64 n n (by omega) (by omega) (by rw [a.2.2];omega) (by omega);rw [this,a.2.1];have d:madeCells (Value.int .u8 0).cells n=(byteVals (List.replicate n 0)).toArray:=by
  apply Array.ext
  · simp [madeCells,byteVals]
  · intro i h1 f;simp [madeCells,byteVals,pbj,Value.cells,Nat.mod_one]
 simp only [xW,zf,d]
theorem pbb (v l w) (h:Wd w v l) (O:okW l) (Z:l.length<=100000):Calls prog 52 #[v] w (pde (valW l) w):=by
 obtain ⟨ao,ab,rfl,S,ac⟩:=h.form;obtain ⟨n,F⟩:=az (l.length);rw [<-F] at h S Z ⊢;obtain ⟨a,f⟩:∃ a,a=4 * n:=⟨_,rfl⟩
 have aa:=php w a (by omega);have q3:4 * (n:Int)=(a:Int):=by omega
 have J:=ah f;have HH:=ah h;have P:=ah F;have af:a<=400000:=by omega
 clear f h F;go_in;go_wp2_with fail;clear q3;go_loopw [4,11] (fun _ i wr=>∃ k:Nat,i=.int .i64 (k:Int)/\k<=a/\Hid (AB 5 wr w.heap.size (List.replicate (a - k) 0 ++ beN (valW l) k))/\Hid (Uq w wr)) (fun _ i _=>a - (intOf i).toNat)
 case atStart =>
  refine ⟨0,rfl,xu _,?_,uR.alloc _⟩;rw [Nat.sub_zero,beN,yl];exact xi _ _
 case round =>
  obtain ⟨k,rfl,hk,j,D⟩:=hrel;by_cases T:k<a
  · obtain ⟨m,E⟩:∃ m,a - k=m+1:=⟨a - k - 1,by omega⟩
    obtain ⟨q,hq⟩:=az (k / 4);obtain ⟨r,Q⟩:=az (k % 4);obtain ⟨c,y⟩:=az (r * 8);have f:=J.out;obtain ⟨d,B⟩:∃ d,l[q]? =some d:=⟨_,xd (by have:=P.out;omega)⟩
    obtain ⟨g,U,c0⟩:=(HH.out.upd D.out).get B;subst U;have H:k=4 * q+r:=by omega
    have t:=pq6 O B (r:=r) (by omega);rw [<-H,yk 8 r,<-y] at t;obtain ⟨b,o⟩:=az (UInt8.ofNat (po4 (valW l) k));have x:b.toNat=d / 2 ^ c % 256:=by rw [o,yn,<-t];exact xV (pl2 _ _)
    have d1:(k:Int) / 4=(q:Int):=by omega
    have d2:(k:Int) % 4=(r:Int):=by omega
    have d3:(r:Int) * 8=(c:Int):=by omega
    have s1:min c 32=c:=by omega
    have s2:(d:Int) / 2 ^ c % 256=(b.toNat:Int):=by
     rw [x,uC,Int.natCast_ediv,uM];rfl
    have e1:(a:Int) - 1 - (k:Int)=(m:Int):=by omega
    have f0:=j.out.frozen m;obtain ⟨N,K⟩:∃ N,(List.replicate (a - k) 0 ++ beN (valW l) k)[m]? =some N:=⟨_,xd (by rw [xr,zx];omega)⟩
    have cb:=j.out.cell K;have i0:(0:Int)<=(k:Int):=by omega
    have i1:(k:Int)<(a:Int):=by omega
    have j0:(0:Int)<=(q:Int):=by omega
    have j1:(q:Int)<(n:Int):=by omega
    have m0:(0:Int)<=(m:Int):=by omega
    have m1:(m:Int)<(a:Int):=by omega
    have r0:(0:Int)<=(c:Int):=by omega
    have X:Hid (AB 5 (wr.setCell ⟨w.heap.size,m,none⟩ (.int .u8 (b.toNat:Int))) w.heap.size (List.replicate (a - (k+1)) 0 ++ beN (valW l) (k+1))):=by
     have h1:=j.out.set m b;rw [E,psz,o] at h1;rw [show a - (k+1)=m by omega,beN,o];exact h1
    have W:Hid (Uq w (wr.setCell ⟨w.heap.size,m,none⟩ (.int .u8 (b.toNat:Int)))):=D.out.setNew (p:=⟨w.heap.size,m,none⟩) (xj _) _;have ad:=ah (xf E (xf hq (xf Q (xf y f))));have HB:=ah (xf o (xf x t));clear E hq Q y f o x t H B K;go_wp2_with fail;exact ⟨⟨k+1,by go_num,by omega,X,W⟩,by simp [intOf];omega⟩
  · obtain rfl:k=a:=by omega
    have C:=j.out;rw [yC,zg,zk] at C;obtain ⟨z,u⟩:∃ z:ByteArray,bs z=beN (valW l) k:=⟨⟨(beN (valW l) k).toArray⟩,rfl⟩
    have R:=C.text z u k;rw [ph6] at R;have M:z.size<=1000000000000:=by rw [<-pac,u,ph6];omega
    have A:=po6 z wr M;have G:natB (bs z)=valW l:=by
     rw [u];refine pjj ?_;have h1:=poU O;rw [<-P.out] at h1;rw [J.out,zj,pl3];exact h1
    rw [G] at A;have HS:=ah A;clear C u A G M j T;go_wp2_with fail;refine HS.out.mono ?_;rintro e w1 ⟨r,Y,rfl,rfl⟩;go_wp2;go_ret;exact ⟨r,Y,rfl,D.out⟩
theorem pcV {d} (h0:0<d) (h:d<4294967296):dw d=[d]:=by
 rw [pet h0,xV h,uA h,pbf]
theorem Wd.one {w v d} (h:Wd w v [d]):∃ g a,v=.slice (some ⟨g,0,none⟩) 1 a/\1<=a/\a<=9223372036854775807/\g<w.heap.size/\w.cell? ⟨g,0,none⟩=some (.int .u32 (d:Int)):=by
 obtain ⟨k,a,rfl,h1,e,c⟩:=h;rcases c with c | ⟨b,rfl,f,j⟩
 · simp at c
 · exact ⟨b,a,rfl,by simpa using h1,e,f,j 0 d rfl⟩
theorem Wd.none' {w v} (h:Wd w v []):∃ c a,v=.slice c 0 a:=by
 obtain ⟨c,a,rfl,h1,d,e⟩:=h;exact ⟨c,a,rfl⟩
def pgo (x:Int) (w:World) (e:Ending) (w':World):Prop:=e=.returned (.int .i64 x)/\Upd [] [] w w'
theorem peg (u v l r w) (c:Wd w u l) (a:Wd w v r) (h:l.length<r.length):Calls prog 213 #[u,v] w (pgo (-1) w):=by
 obtain ⟨e,d,rfl,_,_⟩:=c.form;obtain ⟨n,k,rfl,_,_⟩:=a.form;have m:((l.length:Int) != (r.length:Int))=true:=by rw [uh];omega
 have j:((l.length:Int) == (r.length:Int))=false:=by rw [xm];omega
 have f:(l.length == r.length)=false:=by rw [xm];omega
 have g:(l.length:Int)<(r.length:Int):=by omega
 clear c a;go_in;go_wp2;go_ret;exact ⟨rfl,Upd.refl _ _⟩
theorem pff (u v d w) (c:Wd w u [d]) (a:Wd w v [d]):Calls prog 213 #[u,v] w (pgo 0 w):=by
 obtain ⟨g,e,rfl,_,_,_,j⟩:=c.one;obtain ⟨h,f,rfl,_,_,_,k⟩:=a.one;clear c a;go_in;go_wp2_with fail;refine yt 2 ?_;rw [xK];go_wp2_with fail;go_quiet (fail);go_wp2_with fail;rw [xK];go_wp2;go_ret;exact ⟨rfl,uR.drewN _⟩
theorem pfg (u v d e w) (c:Wd w u [d]) (a:Wd w v [e]) (p:d<e):Calls prog 213 #[u,v] w (pgo (-1) w):=by
 obtain ⟨g,f,rfl,_,_,_,j⟩:=c.one;obtain ⟨h,q,rfl,_,_,_,k⟩:=a.one;have r:((d:Int) != (e:Int))=true:=by rw [uh];omega
 have o:((d:Int) == (e:Int))=false:=by rw [xm];omega
 have n:(d:Int)<(e:Int):=by omega
 have m:(d == e)=false:=by rw [xm];omega
 clear c a;go_in;go_wp2_with fail;refine yt 2 ?_;rw [xK];go_wp2_with fail;go_quiet (fail);go_wp2_with fail;go_quiet (fail);go_wp2;go_ret;exact ⟨rfl,(uR.drewN _).drewN _⟩
theorem pun (u v w) (C:Wd w u [3]) (y:Wd w v [3]):Calls prog 261 #[u,v] w (fun e w'=>∃ r,Hid (Wd w' r [9])/\e=.returned r/\Uq w w'):=by
 obtain ⟨g,K,rfl,_,_,z,t⟩:=C.one;obtain ⟨h,T,rfl,_,_,B,x⟩:=y.one;have o:(Instr.makeSlice 119 (.int .i64 2) (.int .i64 2)).run prog w=.ok (.slice (some ⟨w.heap.size,0,none⟩) 2 2) (w.alloc (.cells (pcT (List.replicate 2 0)).toArray 163)):=pbT w 2 (by omega);obtain ⟨a,f⟩:=az (w.alloc (.cells (pcT (List.replicate 2 0)).toArray 163));have c:WB a w.heap.size [0,0]:=by rw [f];exact xi _ _
 have k:Uq w a:=by rw [f];exact uR.alloc _
 rw [<-f] at o;obtain ⟨G,m⟩:=az (w.heap.size);rw [<-m] at o c;have Q:a.cell? ⟨g,0,none⟩=some (.int .u32 3):=(k.cell z (by simp)).trans t;have R:a.cell? ⟨h,0,none⟩=some (.int .u32 3):=(k.cell B (by simp)).trans x;have S:a.cell? ⟨G,0,none⟩=some (.int .u32 0):=c.cell (j:=0) rfl;have J:a.cell? ⟨G,1,none⟩=some (.int .u32 0):=c.cell (j:=1) rfl;have N:=c.frozen 0;have U:=c.frozen 1;have A:WB ((a.setCell ⟨G,0,none⟩ (.int .u32 9)).setCell ⟨G,1,none⟩ (.int .u32 0)) G [9,0]:=(c.set 0 9).set 1 0;have q:Uq w ((a.setCell ⟨G,0,none⟩ (.int .u32 9)).setCell ⟨G,1,none⟩ (.int .u32 0)):=(k.setNew (p:=⟨G,0,none⟩) (by rw [m];exact xj _) _).setNew (p:=⟨G,1,none⟩) (by rw [m];exact xj _) _;have n:=pcU _ _ _ (A.slice (by simp [maxLen])) (fun d H=>by simp at H;omega);rw [show valW [9,0]=9 from rfl,pcV (by omega) (by omega)] at n;have E:=ah n;have D:=ah q;have O:g≠G:=by omega
 have P:h≠G:=by omega
 clear C y t x f k n A q c m z B;go_in;go_wp2_with fail;refine yt 2 ?_;rw [xK];go_wp2_with fail;refine yt 2 ?_;rw [xK];go_wp2_with fail;rw [xK];go_wp2_with fail;rw [xK];go_wp2_with fail;refine E.out.mono ?_;rintro e M ⟨v,F,rfl,rfl⟩;go_wp2;go_ret;exact ⟨v,F,rfl,D.out⟩
theorem pbF (s d) (f:bs s=be d) (h0:0<d) (c:d<4294967296) (w):Calls prog 123 #[.string s] w (fun e w'=>∃ a,Hid (Wd w' a [d])/\e=.returned a/\Uq w w'):=by
 have g:s.size<=1000000000:=by
  rw [<-pac,f];exact xB (paJ 4 d (by simpa using c)) (by omega)
 have h:=pbr s w g;rw [f,paK,pcV h0 c] at h;exact h
theorem pjn (v d w) (u:Wd w v [d]) (z:d<1000000000):Calls prog 124 #[v,.int .u32 1000000000] w (fun e w'=>∃ r,Hid (Wd w' r [])/\e=.returned (.tuple #[r,.int .u32 (d:Int)])/\Uq w w'):=by
 obtain ⟨g,J,rfl,_,_,x,t⟩:=u.one;have n:(Instr.makeSlice 119 (.int .i64 1) (.int .i64 1)).run prog w=.ok (.slice (some ⟨w.heap.size,0,none⟩) 1 1) (w.alloc (.cells (pcT (List.replicate 1 0)).toArray 163)):=pbT w 1 (by omega);obtain ⟨a,f⟩:=az (w.alloc (.cells (pcT (List.replicate 1 0)).toArray 163));have c:WB a w.heap.size [0]:=by rw [f];exact xi _ _
 have h:Uq w a:=by rw [f];exact uR.alloc _
 rw [<-f] at n;obtain ⟨G,k⟩:=az (w.heap.size);rw [<-k] at n c;have P:a.cell? ⟨g,0,none⟩=some (.int .u32 (d:Int)):=(h.cell x (by simp)).trans t;have R:a.cell? ⟨G,0,none⟩=some (.int .u32 0):=c.cell (j:=0) rfl;have O:=c.frozen 0;have y:WB (a.setCell ⟨G,0,none⟩ (.int .u32 0)) G [0]:=c.set 0 0;have q:Uq w (a.setCell ⟨G,0,none⟩ (.int .u32 0)):=h.setNew (p:=⟨G,0,none⟩) (by rw [k];exact xj _) _;have m:=pcU _ _ _ (y.slice (by simp [maxLen])) (fun d z=>by simp at z;omega);rw [show valW [0]=0 from rfl,pbf] at m;have D:=ah m;have C:=ah q;have o:bits .or .u64 0 (d:Int)=(d:Int):=by
  show IntKind.u64.wrap ((BitVec.ofInt 64 0 ||| BitVec.ofInt 64 (d:Int)).toNat:Int)=_;have o:(BitVec.ofInt 64 (d:Int)).toNat=d:=by
   rw [yO];show ((d:Int) % 18446744073709551616).toNat=_;omega
  have A:(BitVec.ofInt 64 0).toNat=0:=rfl;rw [uN,A,o,Nat.zero_or];show (d:Int) % 18446744073709551616=_;omega
 have B:(d:Int) / 1000000000=0:=by omega
 have H:(d:Int).tdiv 1000000000=0:=by rw [xP (by omega)];exact B
 have F:(d:Int) % 1000000000=(d:Int):=by omega
 have M:(d:Int).tmod 1000000000=(d:Int):=by rw [xO (by omega)];exact F
 have N:(d:Int) % 18446744073709551616=(d:Int):=by omega
 have Q:(d:Int) % 4294967296=(d:Int):=by omega
 clear u t f h m y q c k x;go_in;go_wp2_with fail;refine yt 2 ?_;rw [xK];go_wp2_with fail;rw [xK];go_wp2_with fail;refine D.out.mono ?_;rintro e K ⟨v,E,rfl,rfl⟩;go_wp2;go_ret2;exact ⟨v,E,rfl,C.out⟩
theorem pkM (c a w):Calls prog 126 #[.slice c 1 a] w (fun e w'=>e=.returned (.tuple #[])/\w=w'):=by
 go_in;go_wp2_with fail;refine yt 1 ?_;rw [xK];go_wp2_with fail;go_end0;exact ⟨rfl,rfl⟩
theorem pm8 {w v s} (h:paU w v [bs s]):∃ g a,v=.slice (some ⟨g,0,none⟩) 1 a/\1<=a/\g<w.heap.size/\w.cell? ⟨g,0,none⟩=some (.string s):=by
 have f:w.ownsRow 0 9 1 v 1 [.string s]:=h;obtain ⟨g,a,d,rfl,c,h1,k,m,j⟩:=pca f (by omega);refine ⟨g,a,rfl,h1,(xq.1 c).1,?_⟩;rw [xa _ _ _ _ _ _ c];have e:(d.toList.take (1 * 1))[0]? =some (.string s):=by rw [j];rfl
 rw [xR (by omega)] at e;simpa using e
theorem pgp (s d) (H:bs s=be d) (h0:0<d) (hd:d<1000000000) (w) (W:Tabs w):Calls prog 55 #[.string s] w (MkS (Lib.itoa (d:Int)) w):=by
 have N:=ah (pbF s d H h0 (by omega) w);have hl:=itoa_len (d:Int) (by unfold pab;omega);clear H;go_in;go_wp2_with fail;refine N.out.mono ?_;rintro e Y ⟨v1,h,rfl,C⟩;obtain ⟨g,aa,rfl,_,_,_,_⟩:=h.out.one;have G:=ah (pjn _ d Y h.out hd);have z:=ah C;clear N C;go_wp2_with fail;refine yt 2 ?_;rw [xK];go_wp2_with fail;refine G.out.mono ?_;rintro e Z ⟨v2,A,rfl,v⟩;obtain ⟨ac,ad,rfl⟩:=A.out.none';have m:=ah (z.out.trans v);clear v h A G z;go_wp2_with fail;refine (paA (d:Int) Z (by unfold pab;omega) (W.upd m.out)).mono ?_;rintro e M ⟨t,q,ab,rfl,F⟩;have E:=ah (m.out.trans F);obtain ⟨v4,p,r,u,a⟩:=pbE M (.slice none 0 0) [] t (pdN _) (by simp);have T:=ah r;obtain ⟨g4,U,rfl,D,y,S⟩:=pm8 u;have f:=ah (xf D (xf y S));have B:Uq M p:=⟨a.os,a.tape,a.output,a.size,fun k o _=>a.block k o (by simp [foot,Value.ownBlock]),fun _ o=>by simp at o⟩
 have X:=ah (E.out.trans B);clear F r u a D y S B m E;go_wp2_with (refine bN T ?_)
 rw [xK];go_wp2_with fail;refine (pkM _ _ p).mono ?_;rintro e w5 ⟨rfl,rfl⟩;go_wp2_with fail;have Q:=Tryz.strings_Join g4 0 U [t] ⟨#[]⟩ p (by
  intro j x c
  match j,c with
  | 0,c=>simp at c;subst c;exact f.out.2.2) f.out.2.1 (by simp) f.out.1 (by
   show (Lib.join [bs t] []).length<=_;simp [Lib.join];rw [q.out];omega)
 refine Q.mono ?_;rintro e w6 ⟨rfl,J⟩;have P:=paE J;have HU:=ah (X.out.trans P);have n:bs (⟨(Lib.join ([t].map (·.data.toList)) (⟨#[]⟩:ByteArray).data.toList).toArray⟩:ByteArray)=bs t:=by
  rw [pcM];show Lib.join [bs t] []=_;simp [Lib.join]
 obtain ⟨R,K⟩:∃ R:ByteArray,R=⟨(Lib.join ([t].map (·.data.toList)) (⟨#[]⟩:ByteArray).data.toList).toArray⟩:=⟨_,rfl⟩
 rw [<-K] at n ⊢;have O:=ah n;clear Q J P n K;go_wp2;go_ret;exact ⟨R,by show _=_;rw [O.out,q.out],by rw [<-q.out,<-O.out,pac];exact xj _,rfl,HU.out⟩
end Go.Proofs.YtkhjolbbpdaplaaGreatDoor
