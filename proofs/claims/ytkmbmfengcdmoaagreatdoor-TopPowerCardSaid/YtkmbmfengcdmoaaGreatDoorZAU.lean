/- Records read off frames; what is found on a new disk; appending and compacting. No condition. -/
import Derived.Test.YtkmbmfengcdmoaaGreatDoorZAB
import Derived.Test.YtkmbmfengcdmoaaGreatDoorZAQ
set_option linter.all false
namespace Go.Jn
open Go Go.Dk
def sec(st:List UInt8)(s:Nat):List UInt8:=(st.drop (32*s)).take 32
theorem fN{l t:List UInt8}{o:Nat}(h:o+t.length<=l.length)(p:Nat):(aX l o t)[p]? =if o<=p/\p<o+t.length then t[p-o]? else l[p]? :=by
 unfold aX;by_cases a:p<o
 ·rw[if_neg (by omega),xL (by rw[jQ];omega),qC,if_pos a]
 ·rw[BW (by rw[jQ];omega),jQ,Sf (by omega)];by_cases b:p<o+t.length
  ·rw[if_pos ⟨by omega,b⟩,xL (by omega)]
  ·rw[if_neg (by omega),BW (by omega),GI];congr 1;omega
def patch(t:List UInt8)(start off:Nat)(text:List UInt8):List UInt8:=t.mapIdx (λi b=>if off<=start+i/\start+i<off+text.length then text.getD (start+i-off) b else b)
theorem dX(t:List UInt8)(start off:Nat)(text:List UInt8):(patch t start off text).length=t.length:=by unfold patch;simp
theorem oT(t:List UInt8)(start off:Nat)(text:List UInt8)(i:Nat)(a:i<t.length):(patch t start off text)[i]? =if off<=start+i/\start+i<off+text.length then text[start+i-off]? else t[i]? :=by
 unfold patch;rw[List.getElem?_mapIdx,eH a];by_cases h:off<=start+i/\start+i<off+text.length
 ·simp only[GK];rw[if_pos h,if_pos h,BX,eH (by omega)];rfl
 ·simp only[GK];rw[if_neg h,if_neg h]
theorem ij{st:List UInt8}{s:Nat}(h:32*s+32<=st.length):(sec st s).length=32:=by unfold sec;rw[jQ,zS];omega
theorem kT{st:List UInt8}{s i:Nat}(h:i<32):(sec st s)[i]? =st[32*s+i]? :=by unfold sec;rw[qC,if_pos h,GI]
def J9(st:List UInt8)(base k0 off:Nat)(text:List UInt8):Nat->List UInt8
 |0=>st
 |m+1=>aX (J9 st base k0 off text m) (32*(base+(k0+m))) (patch (sec st (base+(k0+m))) (32*(k0+m)) off text)
theorem zH{st:List UInt8}{base k0 off:Nat}{text:List UInt8}:∀m,32*(base+(k0+m))<=st.length->(J9 st base k0 off text m).length=st.length
 |0,_=>rfl
 |m+1,h=>by
  have a:=zH (st:=st) (base:=base) (k0:=k0) (off:=off) (text:=text) m (by omega);show(aX _ _ _).length=_;rw[fI,a];rw[dX,ij (by omega),a];omega
theorem DI{st:List UInt8}{base k0 off:Nat}{text:List UInt8}:∀m,32*(base+(k0+m))<=st.length->∀p,(J9 st base k0 off text m)[p]? =
  if(32*(base+k0)<=p/\p<32*(base+(k0+m)))/\32*base+off<=p/\p<32*base+off+text.length then text[p- (32*base+off)]? else st[p]?
 |0,_,p=>by rw[if_neg (by omega)];rfl
 |m+1,h,p=>by
  have d:=zH (st:=st) (base:=base) (k0:=k0) (off:=off) (text:=text) m (by omega);have e:=DI (st:=st) (base:=base) (k0:=k0) (off:=off) (text:=text) m (by omega) p;have c:(sec st (base+(k0+m))).length=32:=ij (by omega);show(aX _ _ _)[p]? =_;rw[fN (by rw[dX,c,d];omega),dX,c];by_cases b:32*(base+(k0+m))<=p/\p<32*(base+(k0+m))+32
  ·rw[if_pos b,oT _ _ _ _ _ (by omega)];by_cases a:32*base+off<=p/\p<32*base+off+text.length
   ·rw[if_pos (by omega),if_pos (by omega)];congr 1;omega
   ·rw[if_neg (by omega),if_neg (by omega),kT (by omega)];congr 1;omega
  ·rw[if_neg b,e];by_cases a:(32*(base+k0)<=p/\p<32*(base+(k0+m)))/\32*base+off<=p/\p<32*base+off+text.length
   ·rw[if_pos a,if_pos (by omega)]
   ·rw[if_neg a,if_neg (by omega)]
theorem Ka{st:List UInt8}{base off:Nat}{text:List UInt8}(a:32*base+off+text.length<=st.length)(b:32*(base+(off+text.length+31) / 32)<=st.length):
  J9 st base (off / 32) off text ((off+text.length+31) / 32-off / 32)=aX st (32*base+off) text:=by
 apply rC;intro p;have e:off / 32+((off+text.length+31) / 32-off / 32)=(off+text.length+31) / 32:=by omega
 rw[DI _ (by rw[e];exact b),fN a,e];by_cases h:32*base+off<=p/\p<32*base+off+text.length
 ·rw[if_pos (by omega),if_pos h]
 ·rw[if_neg (by omega),if_neg h]
theorem ia{st t:List UInt8}{o s:Nat}(h:o+t.length<=st.length)(b:32*s+32<=o\/o+t.length<=32*s):sec (aX st o t) s=sec st s:=by
 apply rC;intro i;by_cases a:i<32
 ·rw[kT a,kT a,fN h,if_neg (by omega)]
 ·unfold sec;rw[qC,qC,if_neg a,if_neg a]
theorem iQ{st t:List UInt8}{s:Nat}(b:t.length=32)(h:32*s+32<=st.length):sec (aX st (32*s) t) s=t:=by
 apply rC;intro i;by_cases a:i<32
 ·rw[kT a,fN (by omega),if_pos (by omega)];congr 1;omega
 ·unfold sec;rw[qC,if_neg a,pz (by omega)]
def half(st:List UInt8)(size h len:Nat):List UInt8:=(st.drop (32*(2+h*size))).take len
theorem mG{st:List UInt8}{size h len i:Nat}(a:i<len):(half st size h len)[i]? =st[32*(2+h*size)+i]? :=by unfold half;rw[qC,if_pos a,GI]
theorem sL{st t:List UInt8}{size h len o:Nat}(b:o+t.length<=st.length)(c:32*(2+h*size)+len<=o\/o+t.length<=32*(2+h*size)):half (aX st o t) size h len=half st size h len:=by
 apply rC;intro i;by_cases a:i<len
 ·rw[mG a,mG a,fN b,if_neg (by omega)]
 ·unfold half;rw[qC,qC,if_neg a,if_neg a]
theorem AM{st t:List UInt8}{size h len:Nat}(c:32*(2+h*size)+len+t.length<=st.length):half (aX st (32*(2+h*size)+len) t) size h (len+t.length)=half st size h len++t:=by
 have d:(half st size h len).length=len:=by unfold half;rw[jQ,zS];omega
 apply rC;intro i;by_cases a:i<len+t.length
 ·rw[mG a,fN c];by_cases b:i<len
  ·rw[if_neg (by omega),xL (by omega),mG b]
  ·rw[if_pos (by omega),BW (by omega),d];congr 1;omega
 ·unfold half;rw[qC,if_neg a,pz];rw[fu,jQ,zS];omega
def dp(a b:List UInt8)(room:Nat):Option ((Nat×Nat×Nat)×Nat):=
 match bN a room,bN b room with
 |some v,none=>some (v,0)
 |some v,some w=>if w.1<=v.1 then some (v,0)else some (w,1)
 |none,some w=>some (w,1)
 |none,none=>if a=List.replicate 32 0\/b=List.replicate 32 0 then some ((0,0,0),0)else none
structure Found (n:Nat) (st:List UInt8) (v:Nat×Nat×Nat) (a:Nat) (bW:List (List UInt8)):Prop where
 mY:dp (sec st 0) (sec st 1) (32*((n-2) / 2))=some (v,a)
 split:da (half st ((n-2) / 2) v.2.1 v.2.2)=some bW
def cA(n base off:Nat)(text:List UInt8):List Nat->DD->DD×Int
 | [],d=>d.sync
 |k::r,d=>
  if(d.read n ((base+k:Nat):Int)).2=0 then
   (if(DD.write n d ((base+k:Nat):Int) (patch (d.read n ((base+k:Nat):Int)).1 (32*k) off text)).2=0 then
    cA n base off text r (DD.write n d ((base+k:Nat):Int) (patch (d.read n ((base+k:Nat):Int)).1 (32*k) off text)).1
   else DD.write n d ((base+k:Nat):Int) (patch (d.read n ((base+k:Nat):Int)).1 (32*k) off text))
  else(d,(d.read n ((base+k:Nat):Int)).2)
def cW(off len:Nat):List Nat:=List.range' (off / 32) ((off+len+31) / 32-off / 32)
def b9(n base off:Nat)(text:List UInt8)(d:DD):DD×Int:=if text= []then(d,0)else cA n base off text (cW off text.length) d
def qo(n s:Nat)(t:List UInt8)(d:DD):DD×Int:=if(DD.write n d (s:Int) t).2=0 then(DD.write n d (s:Int) t).1.sync else DD.write n d (s:Int) t
def de:List UInt8:=List.replicate 32 0
def mC(n a num h len:Nat)(d:DD):DD×Int:=
 if(qo n (1-a) de d).2=0 then qo n (1-a) (vt (num+1) h len++vt (num+1) h len) (qo n (1-a) de d).1 else qo n (1-a) de d
def cy(n a num h off:Nat)(text:List UInt8)(d:DD):DD×Int:=
 if(b9 n (2+h*((n-2) / 2)) off text d).2=0 then mC n a num h (off+text.length) (b9 n (2+h*((n-2) / 2)) off text d).1 else b9 n (2+h*((n-2) / 2)) off text d
def pL(st:List UInt8)(p:List (Nat×List UInt8)):List UInt8:=p.foldl (λs x=>aX s (32*x.1) x.2) st
theorem pN(st:List UInt8)(p:List (Nat×List UInt8))(x:Nat×List UInt8):pL st (p++ [x])=aX (pL st p) (32*x.1) x.2:=by unfold pL;rw[PA];rfl
theorem zq(st:List UInt8)(p:List (Nat×List UInt8))(ws a:Nat):∀k,k<=p.length->k<=ws->rR st p ws a k=pL st (p.take k)
 |0,_,_=>by rw[dT];rfl
 |k+1,h,hw=>by
  have c:=zq st p ws a k (by omega) (by omega);unfold rR;have b:p[k]? =some p[k]:=eH (by omega);rw[b];simp only;rw[if_pos (by omega),c,M1 (by omega),pN]
theorem zA(st:List UInt8)(p:List (Nat×List UInt8))(a:Nat):settled st p p.length a=pL st p:=by unfold settled;rw[zq st p _ a _ (aL _) (aL _),KK]
theorem zp{st:List UInt8}{p:List (Nat×List UInt8)}{N:Nat}(ws b:Nat)(f:st.length=N)(g:∀x∈p,32*x.1+x.2.length<=N){q:Nat}(e:∀x∈p,32*x.1<=q->q<32*x.1+x.2.length->x.2[q-32*x.1]? =st[q]?):∀k,(rR st p ws b k).length=N/\(rR st p ws b k)[q]? =st[q]?
 |0=>⟨f,rfl⟩
 |k+1=>by
  obtain⟨c,d⟩:=zp ws b f g e k;unfold rR;cases hx:p[k]? with
  |none=>exact⟨c,d⟩
  |some x=>
   have hm:=ue hx;have h:=g x hm;simp only;split
   ·refine⟨by rw[fI _ _ _ (by omega)];exact c, ?_⟩;rw[fN (by omega)];split
    ·rename_i a;exact e x hm a.1 a.2
    ·exact d
   ·split
    ·have i:(x.2.take b).length<=x.2.length:=by rw[jQ];omega
     refine⟨by rw[fI _ _ _ (by omega)];exact c, ?_⟩;rw[fN (by omega)];split
     ·rename_i a;rw[jQ]at a;rw[qC,if_pos (by omega)];exact e x hm a.1 (by omega)
     ·exact d
    ·exact⟨c,d⟩
theorem Gt{d:DD}{s:Nat}(h:∀x∈d.aF,x.1≠s):d.text s=sec d.st s:=by
 unfold DD.text;cases hl:fR d.aF (s:Int)with
 |none=>rfl
 |some j=>obtain⟨m,x,_,a,b⟩:=lX hl;exact absurd (by omega) (h x (ue a))
theorem MA{n:Nat}{d:DD}{s:Nat}(a:d.on=true)(c:s<n)(h:∀x∈d.aF,x.1≠s):d.read n (s:Int)=(sec d.st s,0):=by
 have b:DD.hasB n (s:Int)=true:=by unfold DD.hasB;simp;omega
 unfold DD.read;rw[if_pos a,if_pos b,tZ,Gt h]
theorem tW{n:Nat}{d:DD}{s:Nat}{t:List UInt8}(a:d.on=true)(e:s<n)(c:t.length=32):
  (DD.write n d (s:Int) t=((d.push s t).tick,0)/\d.dh=false)\/(DD.write n d (s:Int) t=((d.push s t).fail d.writes d.bytes,21)/\d.dh=true):=by
 have b:DD.hasB n (s:Int)=true:=by unfold DD.hasB;simp;omega
 unfold DD.write;rw[if_pos a,if_pos ⟨b,c⟩];cases hf:d.dh with
 |true=>exact .inr ⟨by simp,rfl⟩
 |false=>exact .inl ⟨by simp,rfl⟩
theorem lh(d:DD):d.tick.on=d.on/\d.tick.st=d.st/\d.tick.aF=d.aF/\d.tick.bH=d.bH:=by unfold DD.tick;split<;>exact⟨rfl,rfl,rfl,rfl⟩
theorem MS{d:DD}(a:d.on=true):
  (d.sync.2=0/\d.sync.1.on=true/\d.sync.1.aF= []/\d.sync.1.st=pL d.st d.aF/\d.sync.1.bH=d.bH/\d.dh=false)\/(d.sync=(d.fail d.writes d.bytes,21)/\d.dh=true):=by
 unfold DD.sync;rw[if_pos a];cases hf:d.dh with
 |true=>exact .inr ⟨by simp,rfl⟩
 |false=>refine .inl ?_;obtain⟨b,_,_,c⟩:=lh d;rw[if_neg (by decide: ¬(false=true))];exact⟨rfl,by show d.tick.on=true;rw[b];exact a,rfl,zA _ _ _,c,rfl⟩
theorem wD{d:DD}(a:d.on=true)(x y:Int):(d.fail x y).on=false/\(d.fail x y).aF= []/\(d.fail x y).st=settled d.st d.aF (cj x) (bX y):=by unfold DD.fail;rw[if_pos a];exact⟨rfl,rfl,rfl⟩
theorem lV{d:DD}(h:d.dh=true):d.bH=true:=by unfold DD.dh at h;rw[ua]at h;exact h.1
def Ends(n:Nat)(d:DD)(p:List (Nat×List UInt8))(r:DD×Int):Prop:=
 r.1.Ok n/\((r.2=0/\r.1.on=true/\r.1.aF= []/\r.1.st=pL d.st p/\r.1.bH=d.bH)\/
  (r.2=21/\d.bH=true/\r.1.on=false/\r.1.aF= []/\∃q ws bs,q <+:p/\bs<=32/\r.1.st=settled d.st q ws bs))
theorem pU(x:Int):bX x<=32:=by unfold bX;omega
theorem DD.Ok.RN{n:Nat}{d:DD}(h:d.Ok n):d.sync.1.Ok n:=by
 unfold DD.sync;split
 ·split
  ·exact h.fail _ _
  ·have c:=h.tick
   have:=c.settle d.aF.length 0 d.tick.on d.tick.bH;obtain⟨_,a,b,_⟩:=lh d;rw[a,b]at this;exact this
 ·exact h
theorem vK{n:Nat}{d d0:DD}{p:List (Nat×List UInt8)}(f:d.Ok n)(a:d.on=true)(b:d.st=d0.st)(h:d.aF=p)(g:d.bH=d0.bH):Ends n d0 p d.sync:=by
 refine⟨DD.Ok.RN f, ?_⟩;rcases MS a with⟨c,e,l,m,o,_⟩|⟨c,e⟩
 ·exact .inl ⟨c,e,l,by rw[m,b,h],o.trans g⟩
 ·rw[c];obtain⟨i,j,k⟩:=wD a d.writes d.bytes;exact .inr ⟨rfl,by rw[<-g];exact lV e,i,j,p,_,_,List.prefix_refl _,pU _,by rw[k,b,h]⟩
theorem pf{n base off:Nat}{text:List UInt8}{d0:DD}:∀(f:List Nat) (d:DD) (a:List (Nat×List UInt8)),d.Ok n->d.on=true->d.st=d0.st->d.aF=a->d.bH=d0.bH->(∀k∈f,base+k<n)->f.Nodup->(∀k∈f,∀x∈a,x.1≠base+k)->a.length+f.length<1000000->
  Ends n d0 (a++f.map (λk=>(base+k,patch (sec d0.st (base+k)) (32*k) off text))) (cA n base off text f d)
 | [],d,a,hok,hon,hst,hp,ha,_,_,_,_=>by
  rw[NP,DS];exact vK hok hon hst hp ha
 |k::r,d,a,hok,hon,hst,hp,ha,hks,hnd,hpre,hlen=>by
  have q:base+k<n:=hks k (by simp);have m:=MA (d:=d) hon q (by rw[hp];exact hpre k (by simp));have o:(sec d.st (base+k)).length=32:=ij (by rw[hok.len];omega);have i:(patch (sec d.st (base+k)) (32*k) off text).length=32:=by rw[dX,o]
  unfold cA;rw[m];simp only[uf];have w:DD.hasB n ((base+k:Nat):Int)=true:=by unfold DD.hasB;simp;omega
  have g:d.aF.length<1000000:=by rw[hp];simp at hlen;omega
  have b:=hok.push w i g;rcases tW (n:=n) (d:=d) (s:=base+k) hon q i with⟨p,_⟩|⟨p,y⟩
  ·rw[p];simp only[uf];obtain⟨z,A,B,C⟩:=lh (d.push ((base+k:Nat):Int) (patch (sec d.st (base+k)) (32*k) off text))
   have:=pf (n:=n) (base:=base) (off:=off) (text:=text) (d0:=d0) r (d.push ((base+k:Nat):Int) (patch (sec d.st (base+k)) (32*k) off text)).tick (a++ [(base+k,patch (sec d0.st (base+k)) (32*k) off text)]) b.tick (z.trans hon) (A.trans hst)
    (B.trans (by show d.aF++ [_]=_;rw[hp,tZ,hst])) (C.trans ha) (λj l=>hks j (by simp[l])) (NT.1 hnd).2
    (λj l x c=>by
     rcases zT.1 c with c|c
     ·exact hpre j (by simp[l]) x c
     ·rw[vU]at c;subst c;intro e
      have:k=j:=by simp at e;omega
      subst this;exact(NT.1 hnd).1 l)
    (by simp at hlen⊢;omega)
   rw[List.append_assoc]at this;exact this
  ·rw[p];rw[if_neg (by show ¬((21:Int)=0);decide)];have h:(d.push ((base+k:Nat):Int) (patch (sec d.st (base+k)) (32*k) off text)).on=true:=hon;obtain⟨t,u,v⟩:=wD h d.writes d.bytes;refine⟨b.fail _ _, .inr ⟨rfl,by rw[<-ha];exact lV y,t,u,a++ [(base+k,patch (sec d0.st (base+k)) (32*k) off text)],cj d.writes,bX d.bytes, ?_,pU _, ?_⟩⟩
   ·rw[xJ];exact⟨r.map (λk=>(base+k,patch (sec d0.st (base+k)) (32*k) off text)),by rw[List.append_assoc];rfl⟩
   ·rw[v];show settled d.st (d.aF++ [_]) _ _=_;rw[hp,hst,tZ]
theorem zg{n s:Nat}{t:List UInt8}{d:DD}(e:d.Ok n)(b:d.on=true)(f:d.aF= [])(o:s<n)(h:t.length=32):Ends n d [(s,t)] (qo n s t d):=by
 have l:DD.hasB n (s:Int)=true:=by unfold DD.hasB;simp;omega
 have a:=e.push l h (by rw[f];decide);unfold qo;rcases tW (n:=n) (d:=d) (s:=s) b o h with⟨g,_⟩|⟨g,m⟩
 ·rw[g,if_pos rfl];obtain⟨p,q,r,u⟩:=lh (d.push (s:Int) t);exact vK a.tick (p.trans b) q (r.trans (by show d.aF++ [_]=_;rw[f,tZ];rfl)) u
 ·rw[g,if_neg (by show ¬((21:Int)=0);decide)];have c:(d.push (s:Int) t).on=true:=b;obtain⟨i,j,k⟩:=wD c d.writes d.bytes;refine⟨a.fail _ _, .inr ⟨rfl,lV m,i,j,[(s,t)],cj d.writes,bX d.bytes,List.prefix_refl _,pU _, ?_⟩⟩;rw[k];show settled d.st (d.aF++ [_]) _ _=_;rw[f,tZ];rfl
theorem xS{st:List UInt8}{base k0 off:Nat}{text:List UInt8}:∀m,pL st ((List.range' k0 m).map (λk=>(base+k,patch (sec st (base+k)) (32*k) off text)))=J9 st base k0 off text m
 |0=>rfl
 |m+1=>by
  rw[List.range'_concat,uE,List.map_singleton,pN,xS m];simp only[Nat.one_mul];rfl
theorem BK{n base off:Nat}{text:List UInt8}{d:DD}(a:d.Ok n)(c:d.on=true)(f:d.aF= [])(g:text≠ [])(i:base+(off+text.length+31) / 32<=n):
  Ends n d ((cW off text.length).map (λk=>(base+k,patch (sec d.st (base+k)) (32*k) off text))) (b9 n base off text d)/\
   pL d.st ((cW off text.length).map (λk=>(base+k,patch (sec d.st (base+k)) (32*k) off text)))=aX d.st (32*base+off) text:=by
 have e:=a.len;constructor
 ·unfold b9;rw[if_neg g]
  have:=pf (n:=n) (base:=base) (off:=off) (text:=text) (d0:=d) (cW off text.length) d [] a c rfl f rfl
   (λk b=>by unfold cW at b;rw[List.mem_range'_1]at b;omega) (by unfold cW;exact List.nodup_range' (step:=1)) (λk b x h=>by cases h) (by unfold cW;rw[Qa,qA];have:=a.n2;omega)
  rw[xK]at this;exact this
 ·unfold cW;rw[xS,Ka (by omega) (by omega)]
theorem nN(st:List UInt8)(o:Nat):aX st o []=st:=by unfold aX;simp
theorem lu{st t:List UInt8}{s:Nat}(c:t.length<=32)(h:32*s+32<=st.length):sec (aX st (32*s) t) s=t++(sec st s).drop t.length:=by
 apply rC;intro i;by_cases b:i<32
 ·rw[kT b,fN (by omega)];by_cases a:i<t.length
  ·rw[if_pos (by omega),xL a];congr 1;omega
  ·rw[if_neg (by omega),BW (by omega),GI,kT (by omega)];congr 1;omega
 ·rw[pz (by unfold sec;rw[jQ];omega),pz];rw[fu,zS,ij h];omega
theorem ri{st t:List UInt8}{s ws a:Nat}{q:List (Nat×List UInt8)}(d:q <+: [(s,t)])(c:a<=32)(f:t.length=32):∃k,k<=32/\settled st q ws a=aX st (32*s) (t.take k):=by
 obtain⟨r,b⟩:=d;cases q with
 |nil=>exact⟨0,by decide,by rw[dT,nN];rfl⟩
 |cons x q=>
  have e:x=(s,t)/\q= []:=by simp at b;exact⟨b.1,b.2.1⟩
  obtain⟨rfl,rfl⟩:=e;unfold settled;show ∃k,k<=32/\rR st [(s,t)] ws a 1=_;unfold rR;show ∃k,k<=32/\(if 0<ws then aX st (32*s) t else if 0=ws then aX st (32*s) (t.take a)else st)=_;by_cases h:0<ws
  ·exact⟨32,by decide,by rw[if_pos h,np (by omega)]⟩
  ·exact⟨a,c,by rw[if_neg h,if_pos (by omega)]⟩
theorem Bi{s:List UInt8}{room:Nat}(h:s[0]? =some 0):bN s room=none:=by
 unfold bN;split
 ·have:cI (s.take 9)=none:=jn _ _ 0 (NQ.2 ⟨0,by rw[qC,if_pos (by decide)];exact h⟩) (by decide);rw[this]
 ·rfl
def nr(n:Nat)(st:List UInt8)(v:Nat×Nat×Nat)(a:Nat):Prop:=bN (sec st a) (32*((n-2) / 2))=some v\/(a=0/\v=(0,0,0)/\sec st 0=de)
theorem kO{a b:List UInt8}{room:Nat}{v:Nat×Nat×Nat}{at_:Nat}(h:dp a b room=some (v,at_)):
  (at_=0/\bN a room=some v)\/(at_=1/\bN b room=some v)\/(at_=0/\v=(0,0,0)/\bN a room=none/\bN b room=none):=by
 unfold dp at h;cases ha:bN a room with
 |none=>
  cases hb:bN b room with
  |none=>
   rw[ha,hb]at h;simp only at h;split at h
   ·cases h;exact .inr (.inr ⟨rfl,rfl,rfl,rfl⟩)
   ·cases h
  |some w=>rw[ha,hb]at h;cases h;exact .inr (.inl ⟨rfl,rfl⟩)
 |some u=>
  cases hb:bN b room with
  |none=>rw[ha,hb]at h;cases h;exact .inl ⟨rfl,rfl⟩
  |some w=>
   rw[ha,hb]at h;simp only at h;split at h
   ·cases h;exact .inl ⟨rfl,rfl⟩
   ·cases h;exact .inr (.inl ⟨rfl,rfl⟩)
theorem wU{a b:List UInt8}{room:Nat}{v:Nat×Nat×Nat}{at_:Nat}(h:dp a b room=some (v,at_)):at_=0\/at_=1:=by
 rcases kO h with h|h|h
 ·exact .inl h.1
 ·exact .inr h.1
 ·exact .inl h.1
theorem rb{s:List UInt8}{room:Nat}{v:Nat×Nat×Nat}(h:bN s room=some v):v.2.1<=1/\v.2.2<=room:=by
 unfold bN at h;split at h
 ·split at h
  ·cases h
  ·split at h
   ·cases h
   ·split at h
    ·split at h
     ·cases h
     ·split at h
      ·cases h;exact⟨by assumption,by assumption⟩
      ·cases h
    ·cases h
 ·cases h
theorem fE{a b:List UInt8}{room:Nat}{v:Nat×Nat×Nat}{at_:Nat}(h:dp a b room=some (v,at_)):v.2.1<=1/\v.2.2<=room:=by
 rcases kO h with h|h|h
 ·exact rb h.2
 ·exact rb h.2
 ·rw[h.2.1];exact⟨gu _,gu _⟩
theorem JH{st b:List UInt8}{room:Nat}{v w:Nat×Nat×Nat}{a:Nat}(h:dp (sec st 0) (sec st 1) room=some (v,a))(c:sec b a=sec st a)(d:bN (sec b (1-a)) room=some w)(e:w.1=v.1+1):dp (sec b 0) (sec b 1) room=some (w,1-a):=by
 rcases kO h with⟨rfl,hv⟩|⟨rfl,hv⟩|⟨rfl,hz,hv,_⟩
 ·rw[c];unfold dp;rw[hv,show bN (sec b 1) room=some w from d];simp only;rw[if_neg (by omega)]
 ·rw[c];unfold dp;rw[hv,show bN (sec b 0) room=some w from d];simp only;rw[if_pos (by omega)]
 ·rw[c];unfold dp;rw[hv,show bN (sec b 1) room=some w from d]
theorem vz{n:Nat}{st b:List UInt8}{v:Nat×Nat×Nat}{a:Nat}(h:dp (sec st 0) (sec st 1) (32*((n-2) / 2))=some (v,a))(c:nr n st v a)(d:sec b a=sec st a)(e:bN (sec b (1-a)) (32*((n-2) / 2))=none):dp (sec b 0) (sec b 1) (32*((n-2) / 2))=some (v,a):=by
 rcases wU h with rfl|rfl
 ·rw[d];unfold dp;rw[show bN (sec b 1) (32*((n-2) / 2))=none from e];rcases c with c|⟨_,hv,c⟩
  ·rw[c]
  ·rw[c,show bN de (32*((n-2) / 2))=none from qZ _];simp only;rw[if_pos (.inl rfl),hv]
 ·rw[d];unfold dp;rw[show bN (sec b 0) (32*((n-2) / 2))=none from e];rcases c with c|⟨f,_⟩
  ·rw[c]
  ·cases f
theorem nr.bD{n:Nat}{st c:List UInt8}{v:Nat×Nat×Nat}{a:Nat}(b:nr n st v a)(d:sec c a=sec st a):nr n c v a:=by
 rcases b with b|⟨rfl,hv,b⟩
 ·exact .inl (by rw[d];exact b)
 ·exact .inr ⟨rfl,hv,by rw[d];exact b⟩
theorem Ge{st a:List UInt8}{s:Nat}(h:∀q,32*s<=q->q<32*s+32->a[q]? =st[q]?):sec a s=sec st s:=by
 apply rC;intro i;by_cases b:i<32
 ·rw[kT b,kT b];exact h _ (by omega) (by omega)
 ·unfold sec;rw[qC,qC,if_neg b,if_neg b]
theorem AL{st a:List UInt8}{size h len:Nat}(c:∀q,32*(2+h*size)<=q->q<32*(2+h*size)+len->a[q]? =st[q]?):half a size h len=half st size h len:=by
 apply rC;intro i;by_cases b:i<len
 ·rw[mG b,mG b];exact c _ (by omega) (by omega)
 ·unfold half;rw[qC,qC,if_neg b,if_neg b]
theorem Found.bD{n:Nat}{st b:List UInt8}{v:Nat×Nat×Nat}{a:Nat}{bW:List (List UInt8)}(h:Found n st v a bW)(d:dp (sec b 0) (sec b 1) (32*((n-2) / 2))=some (v,a))(c:half b ((n-2) / 2) v.2.1 v.2.2=half st ((n-2) / 2) v.2.1 v.2.2):Found n b v a bW:=
 ⟨d,by rw[c];exact h.split⟩
def Changed(n:Nat)(d:DD)(v:Nat×Nat×Nat)(a:Nat)(bW:List (List UInt8))(w:Nat×Nat×Nat)(recs':List (List UInt8))(r:DD×Int):Prop:=
 r.1.Ok n/\((r.2=0/\r.1.on=true/\r.1.aF= []/\r.1.bH=d.bH/\Found n r.1.st w (1-a) recs'/\nr n r.1.st w (1-a))\/
  (r.2=21/\d.bH=true/\r.1.on=false/\r.1.aF= []/\(nr n d.st v a->(Found n r.1.st v a bW/\nr n r.1.st v a)\/(Found n r.1.st w (1-a) recs'/\nr n r.1.st w (1-a)))))
theorem zI{n base off:Nat}{text:List UInt8}{d:DD}(f:d.Ok n)(i:d.on=true)(w:d.aF= [])(D:base+(off+text.length+31) / 32<=n):
  (b9 n base off text d).1.Ok n/\(((b9 n base off text d).2=0/\(b9 n base off text d).1.on=true/\(b9 n base off text d).1.aF= []/\(b9 n base off text d).1.st=aX d.st (32*base+off) text/\(b9 n base off text d).1.bH=d.bH)\/
   ((b9 n base off text d).2=21/\d.bH=true/\(b9 n base off text d).1.on=false/\(b9 n base off text d).1.aF= []/\∀q,¬(32*base+off<=q/\q<32*base+off+text.length)->(b9 n base off text d).1.st[q]? =d.st[q]?)):=by
 by_cases v:text= []
 ·unfold b9;rw[if_pos v];exact⟨f, .inl ⟨rfl,i,w,by rw[v,nN],rfl⟩⟩
 ·obtain⟨⟨A,B⟩,C⟩:=BK (n:=n) (base:=base) (off:=off) (text:=text) f i w v D;refine⟨A, ?_⟩;rcases B with⟨o,p,r,s,t⟩|⟨o,p,r,s,q,E,z,t,_,y⟩
  ·exact .inl ⟨o,p,r,by rw[s,C],t⟩
  ·refine .inr ⟨o,p,r,s,λQ F=> ?_⟩;rw[y];have h:=f.len;have b:∀x∈q,∃k,k∈cW off text.length/\x=(base+k,patch (sec d.st (base+k)) (32*k) off text):=λx m=>by
    obtain⟨k,a,e⟩:=nS.1 (t.subset m);exact⟨k,a,e.symm⟩
   have c:∀k∈cW off text.length,base+k<n:=λk a=>by
    unfold cW at a;rw[List.mem_range'_1]at a;omega
   have j:∀k,base+k<n->(patch (sec d.st (base+k)) (32*k) off text).length=32:=λk a=>by rw[dX,ij (by omega)]
   refine(zp (N:=32*n) E z h (λx m=> ?_) (λx m l g=> ?_) _).2
   ·obtain⟨k,a,rfl⟩:=b x m;rw[j k (c k a)]
    have:=c k a;show 32*(base+k)+32<=32*n;omega
   ·obtain⟨k,a,rfl⟩:=b x m;have u:=c k a;have l:32*(base+k)<=Q:=l;have g:Q<32*(base+k)+32:=by rw[j k u]at g;exact g
    show(patch (sec d.st (base+k)) (32*k) off text)[Q-32*(base+k)]? =_;rw[oT _ _ _ _ _ (by rw[ij (by omega)];omega),if_neg (by omega),kT (by omega)];congr 1;omega
theorem yf{n:Nat}{d:DD}{v:Nat×Nat×Nat}{a:Nat}{bW i:List (List UInt8)}{h off:Nat}{text:List UInt8}(G:d.Ok n)(d9:d.on=true)(hp:d.aF= [])(hn:4<=n)
  (p:Found n d.st v a bW) (gc:v.1<999999999) (hh:h<=1) (z:off+text.length<=32*((n-2) / 2)) (w:h=v.2.1->v.2.2<=off)
  (m:da (half (aX d.st (32*(2+h*((n-2) / 2))+off) text) ((n-2) / 2) h (off+text.length))=some i):
  Changed n d v a bW (v.1+1,h,off+text.length) i (cy n a v.1 h off text d):=by
 have Q:=G.len;have g7:=G.n2;have ha:=wU p.mY;obtain⟨ii,f8⟩:=fE p.mY;obtain⟨size,D⟩:=x_ ((n-2) / 2)
 have g8:2+2*size<=n:=by omega
 have io:1<=size:=by omega
 obtain⟨b,X⟩:=x_ (h*size)
 obtain⟨c,Y⟩:=x_ (v.2.1*size)
 have hb:(h=0/\b=0)\/(h=1/\b=size):=by
  have:h=0\/h=1:=by omega
  rcases this with rfl|rfl
  ·exact .inl ⟨rfl,by rw[X];simp⟩
  ·exact .inr ⟨rfl,by rw[X];simp⟩
 have hc:(v.2.1=0/\c=0)\/(v.2.1=1/\c=size):=by
  have:v.2.1=0\/v.2.1=1:=by omega
  rcases this with e|e
  ·exact .inl ⟨e,by rw[Y,e];simp⟩
  ·exact .inr ⟨e,by rw[Y,e];simp⟩
 rw[<-D]at z f8 m;rw[<-X]at m;have O:32*(2+c)+v.2.2<=32*(2+b)+off\/32*(2+b)+off+text.length<=32*(2+c):=by
  rcases hb with⟨Z,h2⟩|⟨Z,h2⟩<;>rcases hc with⟨h3,h4⟩|⟨h3,h4⟩
  ·left;have:=w (by omega);omega
  ·right;omega
  ·left;omega
  ·left;have:=w (by omega);omega
 have ge:b<=size:=by omega
 have gt:c<=size:=by omega
 obtain⟨s1,s2⟩:=zI (n:=n) (base:=2+b) (off:=off) (text:=text) G d9 hp (by omega);unfold cy;rw[<-D, <-X];obtain⟨r1,bi⟩:=x_ (b9 n (2+b) off text d)
 rw[<-bi]at s1 s2⊢;have K:(aX d.st (32*(2+b)+off) text).length=32*n:=by rw[fI _ _ _ (by omega)];exact Q
 have H:=p.mY;rw[<-D]at H;rcases s2 with⟨T,a2,a3,M,a5⟩|⟨T,a2,a3,M,a6⟩
 ·rw[if_pos T];obtain⟨r,u⟩:=x_ (aX d.st (32*(2+b)+off) text)
  rw[<-u]at M K m;have A:∀s,s<=1->sec r s=sec d.st s:=λs hs=>by rw[u];exact ia (by omega) (by omega)
  have R:half r size v.2.1 v.2.2=half d.st size v.2.1 v.2.2:=by rw[u];exact sL (by omega) (by rw[<-Y];exact O)
  have f1:Found n r v a bW:=p.bD (by rw[A 0 (by omega),A 1 (by omega)];exact p.mY) (by rw[<-D];exact R);have an:nr n d.st v a->nr n r v a:=λg=>g.bD (A a (by omega))
  -- the other sector is cleared
  have N:(1-a)<n:=by omega
  obtain⟨p1,p2⟩:=zg (n:=n) (s:=1-a) (t:=de) s1 a2 a3 N (by unfold de;simp);unfold mC;obtain⟨B,ci⟩:=x_ (qo n (1-a) de r1.1)
  rw[<-ci]at p1 p2⊢;have other:∀(st t:List UInt8),st.length=32*n->t.length<=32->sec (aX st (32*(1-a)) t) a=sec st a:=λst t hl ht=>ia (by omega) (by omega)
  have f:∀(st t:List UInt8) (x y:Nat),st.length=32*n->t.length<=32->half (aX st (32*(1-a)) t) size x y=half st size x y:=λst t x y hl ht=>sL (by omega) (.inr (by omega))
  rcases p2 with⟨U,b2,b3,b4,V⟩|⟨U,b2,b3,b4,q,ws,bs,V,b6,b7⟩
  ·rw[if_pos U];have W:B.1.st=aX r (32*(1-a)) de:=by rw[b4,M];rfl
   have l2:B.1.st.length=32*n:=p1.len;have bl:de.length=32:=by unfold de;simp
   have S:sec B.1.st a=sec d.st a:=by rw[W,other _ _ K (by omega),A a (by omega)]
   have f9:sec B.1.st (1-a)=de:=by rw[W];exact iQ bl (by omega)
   have d7:half B.1.st size v.2.1 v.2.2=half d.st size v.2.1 v.2.2:=by rw[W,f _ _ _ _ K (by omega),R]
   have d6:half B.1.st size h (off+text.length)=half r size h (off+text.length):=by rw[W,f _ _ _ _ K (by omega)]
   have vl:(vt (v.1+1) h (off+text.length)).length=16:=BV (by omega) hh (by omega);have C:(vt (v.1+1) h (off+text.length)++vt (v.1+1) h (off+text.length)).length=32:=by rw[fu,vl]
   obtain⟨q1,q2⟩:=zg (n:=n) (s:=1-a) (t:=vt (v.1+1) h (off+text.length)++vt (v.1+1) h (off+text.length)) p1 b2 b3 N C;have I:bN (vt (v.1+1) h (off+text.length)++vt (v.1+1) h (off+text.length)) (32*size)=some (v.1+1,h,off+text.length):=JC (by omega) hh (by omega) z;obtain⟨L,dl⟩:=x_ (vt (v.1+1) h (off+text.length)++vt (v.1+1) h (off+text.length))
   rw[<-dl]at q1 q2 C I⊢;obtain⟨r3,co⟩:=x_ (qo n (1-a) L B.1)
   rw[<-co]at q1 q2⊢;have F:∀l,l=aX B.1.st (32*(1-a)) L->Found n l (v.1+1,h,off+text.length) (1-a) i/\nr n l (v.1+1,h,off+text.length) (1-a):=λl e3=>by
    have j:sec l a=sec d.st a:=by rw[e3,other _ _ l2 (by omega),S]
    have E:sec l (1-a)=L:=by rw[e3];exact iQ C (by omega)
    refine⟨⟨?_, ?_⟩, .inl ?_⟩
    ·exact JH p.mY j (by rw[E, <-D];exact I) rfl
    ·rw[<-D];show da (half l size h (off+text.length))=_;rw[e3,f _ _ _ _ l2 (by omega),d6];exact m
    ·rw[E, <-D];exact I
   refine⟨q1, ?_⟩;rcases q2 with⟨c1,c2,c3,c4,c5⟩|⟨c1,c2,c3,c4,q,ws,bs,c5,c6,c7⟩
   ·obtain⟨g1,g2⟩:=F r3.1.st (by rw[c4];rfl);exact .inl ⟨c1,c2,c3,by rw[c5,V,a5],g1,g2⟩
   ·refine .inr ⟨c1,by rw[<-a5, <-V];exact c2,c3,c4,λg=> ?_⟩;obtain⟨k,hk,o⟩:=ri (st:=B.1.st) (ws:=ws) c5 c6 C;rw[<-c7]at o;by_cases P:k=32
    ·subst P;rw[np (by omega)]at o;exact .inr (F _ o)
    ·left;have J:(L.take k).length<=32:=by rw[jQ];omega
     have j:sec r3.1.st a=sec d.st a:=by rw[o,other _ _ l2 J,S]
     have E:sec r3.1.st (1-a)=L.take k++List.replicate (32-k) 0:=by rw[o,lu J (by omega),f9,jQ,Sf (by omega)];unfold de;rw[List.drop_replicate]
     refine⟨p.bD (vz p.mY g j (by rw[E];exact tp L k _ C (by omega))) ?_,g.bD j⟩;rw[<-D,o,f _ _ _ _ l2 J,d7]
  ·rw[if_neg (by rw[U];decide)];refine⟨p1, .inr ⟨U,by rw[<-a5];exact b2,b3,b4,λg=> .inl ?_⟩⟩;have bl:de.length=32:=by unfold de;simp
   obtain⟨k,hk,o⟩:=ri (st:=r1.1.st) (ws:=ws) V b6 bl;rw[<-b7,M]at o;have J:(de.take k).length<=32:=by rw[jQ];omega
   have j:sec B.1.st a=sec d.st a:=by rw[o,other _ _ K J,A a (by omega)]
   have h3:half B.1.st size v.2.1 v.2.2=half d.st size v.2.1 v.2.2:=by rw[o,f _ _ _ _ K J,R]
   refine⟨p.bD ?_ (by rw[<-D];exact h3),g.bD j⟩;by_cases d8:k=0
   ·subst d8;rw[dT,nN]at o;rw[o,A 0 (by omega),A 1 (by omega)];exact p.mY
   ·refine vz p.mY g j (Bi ?_);rw[o,lu J (by omega)];unfold de;rw[List.take_replicate,xL (by rw[List.length_replicate];omega),List.getElem?_replicate,if_pos (by omega)]
 ·rw[if_neg (by rw[T];decide)];refine⟨s1, .inr ⟨T,a2,a3,M,λg=> .inl ?_⟩⟩;have A:∀s,s<=1->sec r1.1.st s=sec d.st s:=λs hs=>Ge λq Z h2=>a6 q (by omega)
  have R:half r1.1.st size v.2.1 v.2.2=half d.st size v.2.1 v.2.2:=AL λq Z h2=>a6 q (by rw[<-Y]at Z h2;omega)
  exact⟨p.bD (by rw[A 0 (by omega),A 1 (by omega)];exact p.mY) (by rw[<-D];exact R),g.bD (A a (by omega))⟩
theorem jI:∀f,cH f []=some []
 |0=>rfl
 |_+1=>rfl
theorem k8{f:Nat}{t:List UInt8}(h:t≠ []):cH (f+1) t=if t.length<4 then none else match cI (t.take 4)with
  |none=>none
  |some n=>if 2000<n\/t.length-4<n then none else(cH f (t.drop (4+n))).map (λr=>(t.drop 4).take n::r):=by
 rw[cH,if_neg h];rfl
theorem lg{f:Nat}{t:List UInt8}{r:List (List UInt8)}(h:cH (f+1) t=some r)(a:t≠ []):∃n q,4<=t.length/\cI (t.take 4)=some n/\n<=2000/\4+n<=t.length/\cH f (t.drop (4+n))=some q/\r=(t.drop 4).take n::q:=by
 rw[k8 a]at h;split at h
 ·cases h
 ·split at h
  ·cases h
  ·rename_i c n b;split at h
   ·cases h
   ·rename_i d;cases hq:cH f (t.drop (4+n))with
    |none=>rw[hq]at h;cases h
    |some q=>
     rw[hq]at h;cases h
     exact⟨n,q,by omega,b,by omega,by omega,hq,rfl⟩
theorem o9:∀(f:Nat) (t:List UInt8) (r:List (List UInt8)) (g:Nat),cH f t=some r->f<=g->cH g t=some r
 |0,t,r,g,h,_=>by
  unfold cH at h;split at h
  ·rename_i e;subst e;cases h;exact jI g
  ·cases h
 |f+1,t,r,g,h,hg=>by
  by_cases a:t= []
  ·subst a;rw[jI]at h⊢;exact h
  ·obtain⟨n,q,d,b,i,j,c,rfl⟩:=lg h a;cases g with
   |zero=>omega
   |succ g=>rw[k8 a,if_neg (by omega),b];simp only;rw[if_neg (by omega),o9 f _ q g c (by omega)];rfl
theorem pa:∀(f:Nat) (t:List UInt8) (r:List (List UInt8)) (g:Nat) (u:List UInt8) (q:List (List UInt8)),cH f t=some r->cH g u=some q->cH (f+g) (t++u)=some (r++q)
 |0,t,r,g,u,q,h,hu=>by
  unfold cH at h;split at h
  ·rename_i e;subst e;cases h;rw[nW];exact hu
  ·cases h
 |f+1,t,r,g,u,q,h,hu=>by
  by_cases a:t= []
  ·subst a;rw[jI]at h;cases h
   exact o9 g u q _ hu (by omega)
  ·obtain⟨n,o,b,c,p,d,i,rfl⟩:=lg h a;have m:t++u≠ []:=λe=>a (List.append_eq_nil_iff.1 e).1
   have j:(t++u).take 4=t.take 4:=P7 b;have k:(t++u).drop (4+n)=t.drop (4+n)++u:=List.drop_append_of_le_length d;have l:((t++u).drop 4).take n=(t.drop 4).take n:=by rw[List.drop_append_of_le_length b];exact P7 (by rw[zS];omega)
   rw[show f+1+g=(f+g)+1 by omega,k8 m,if_neg (by rw[fu];omega),j,c];simp only;rw[if_neg (by rw[fu];omega),k,l,pa f _ o g u q i hu];rfl
theorem Bx{t u:List UInt8}{r q:List (List UInt8)}(h:da t=some r)(a:da u=some q):da (t++u)=some (r++q):=by unfold da at*;rw[fu];exact pa _ t r _ u q h a
theorem zG{b:List UInt8}(h:b.length<=2000):da (bR b)=some [b]:=by have:=xj (l:= [b]) (λx a=>by rw[vU.1 a];exact h);unfold gz at this;simpa using this
def dG:List (List UInt8)->Nat
 | []=>0
 |b::l=>4+b.length+dG l
theorem kR:∀(l m:List (List UInt8)),dG (l++m)=dG l+dG m
 | [],m=>by rw[xK];show _=0+_;omega
 |b::l,m=>by rw[xC];show 4+b.length+dG (l++m)=4+b.length+dG l+dG m;rw[kR l m];omega
theorem pd:∀(f:Nat) (t:List UInt8) (r:List (List UInt8)),cH f t=some r->t.length=dG r/\∀b∈r,b.length<=2000
 |0,t,r,h=>by
  unfold cH at h;split at h
  ·rename_i e;subst e;cases h;exact⟨rfl,λb a=>by cases a⟩
  ·cases h
 |f+1,t,r,h=>by
  by_cases c:t= []
  ·subst c;rw[jI]at h;cases h
   exact⟨rfl,λb a=>by cases a⟩
  ·obtain⟨n,q,j,k,l,m,d,rfl⟩:=lg h c;obtain⟨g,i⟩:=pd f _ q d;have o:((t.drop 4).take n).length=n:=by rw[jQ,zS];omega
   rw[zS]at g;refine⟨?_,λb a=> ?_⟩
   ·show _=4+((t.drop 4).take n).length+dG q;omega
   ·rcases lC.1 a with rfl|a
    ·omega
    ·exact i b a
theorem BA{t:List UInt8}{r:List (List UInt8)}(h:da t=some r):t.length=dG r/\∀b∈r,b.length<=2000:=pd _ t r h
theorem IJ{st:List UInt8}{n:Nat}{v:Nat×Nat×Nat}{a:Nat}{bW:List (List UInt8)}(f:st.length=32*n)(h:Found n st v a bW):(half st ((n-2) / 2) v.2.1 v.2.2).length=v.2.2:=by
 obtain⟨b,d⟩:=fE h.mY
 have:v.2.1*((n-2) / 2)<=(n-2) / 2:=by
  have:v.2.1=0\/v.2.1=1:=by omega
  rcases this with e|e<;>rw[e]<;>simp
 unfold half;rw[jQ,zS];generalize v.2.1*((n-2) / 2)=c at*;by_cases g:4<=n
 ·omega
 ·have:(n-2) / 2=0:=by omega
  omega
theorem uX{st:List UInt8}{n:Nat}{v:Nat×Nat×Nat}{a:Nat}{bW:List (List UInt8)}(e:st.length=32*n)(h:Found n st v a bW):v.2.2=dG bW/\∀b∈bW,b.length<=2000:=by obtain⟨c,d⟩:=BA h.split;exact⟨by rw[<-c,IJ e h],d⟩
theorem vE{m s:Nat}(h:s<m):sec (List.replicate (32*m) 0) s=de:=by unfold sec de;rw[List.drop_replicate,List.take_replicate];congr 1;omega
theorem qm{n:Nat}(c:4<=n):Found n (DD.new n).st (0,0,0) 0 []/\nr n (DD.new n).st (0,0,0) 0:=by
 have a:sec (DD.new n).st 0=de:=vE (by omega);have b:sec (DD.new n).st 1=de:=vE (by omega);refine⟨⟨?_, ?_⟩, .inr ⟨rfl,rfl,a⟩⟩
 ·rw[a,b];unfold dp;rw[show bN de (32*((n-2) / 2))=none from qZ _];simp only;rw[if_pos (.inl rfl)]
 ·unfold half;rw[dT];rfl
theorem xT{n:Nat}{d:DD}{v:Nat×Nat×Nat}{a:Nat}{bW:List (List UInt8)}{b:List UInt8}(g:d.Ok n)(i:d.on=true)(q:d.aF= [])(p:4<=n)
  (h:Found n d.st v a bW) (f:v.1<999999999) (k:b.length<=2000) (j:v.2.2+(4+b.length)<=32*((n-2) / 2)):
  Changed n d v a bW (v.1+1,v.2.1,v.2.2+(bR b).length) (bW++ [b]) (cy n a v.1 v.2.1 v.2.2 (bR b) d):=by
 have o:=kF k;obtain⟨m,_⟩:=fE h.mY;refine yf g i q p h f m (by omega) (λ_=>aL _) ?_;have l:=g.len
 have:v.2.1*((n-2) / 2)<=(n-2) / 2:=by
  have:v.2.1=0\/v.2.1=1:=by omega
  rcases this with e|e<;>rw[e]<;>simp
 rw[AM (by generalize v.2.1*((n-2) / 2)=c at*;omega)];exact Bx h.split (zG k)
end Go.Jn
