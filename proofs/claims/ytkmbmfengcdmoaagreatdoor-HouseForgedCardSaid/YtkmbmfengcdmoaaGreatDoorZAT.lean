/- Records read off frames; what is found on a new disk; appending and compacting. No condition. -/
import Derived.Test.YtkmbmfengcdmoaaGreatDoorZAB
import Derived.Test.YtkmbmfengcdmoaaGreatDoorZAP
set_option linter.all false
namespace Go.Jn
open Go Go.Dk
def sec(st:List UInt8)(s:Nat):List UInt8:=(st.drop (32*s)).take 32
theorem fN{l t:List UInt8}{o:Nat}(h:o+t.length<=l.length)(p:Nat):(aX l o t)[p]? =if o<=p/\p<o+t.length then t[p-o]? else l[p]? :=by
 unfold aX;by_cases h1:p<o
 ·rw[if_neg (by omega),xL (by rw[jQ];omega),qC,if_pos h1]
 ·rw[BW (by rw[jQ];omega),jQ,Sf (by omega)];by_cases h2:p<o+t.length
  ·rw[if_pos ⟨by omega,h2⟩,xL (by omega)]
  ·rw[if_neg (by omega),BW (by omega),GI];congr 1;omega
def patch(t:List UInt8)(start off:Nat)(text:List UInt8):List UInt8:=t.mapIdx (λi b=>if off<=start+i/\start+i<off+text.length then text.getD (start+i-off) b else b)
theorem dX(t:List UInt8)(start off:Nat)(text:List UInt8):(patch t start off text).length=t.length:=by unfold patch;simp
theorem oT(t:List UInt8)(start off:Nat)(text:List UInt8)(i:Nat)(hi:i<t.length):(patch t start off text)[i]? =if off<=start+i/\start+i<off+text.length then text[start+i-off]? else t[i]? :=by
 unfold patch;rw[List.getElem?_mapIdx,eH hi];by_cases h:off<=start+i/\start+i<off+text.length
 ·simp only[GK];rw[if_pos h,if_pos h,BX,eH (by omega)];rfl
 ·simp only[GK];rw[if_neg h,if_neg h]
theorem ij{st:List UInt8}{s:Nat}(h:32*s+32<=st.length):(sec st s).length=32:=by unfold sec;rw[jQ,zS];omega
theorem kT{st:List UInt8}{s i:Nat}(h:i<32):(sec st s)[i]? =st[32*s+i]? :=by unfold sec;rw[qC,if_pos h,GI]
def J9(st:List UInt8)(base k0 off:Nat)(text:List UInt8):Nat->List UInt8
 |0=>st
 |m+1=>aX (J9 st base k0 off text m) (32*(base+(k0+m))) (patch (sec st (base+(k0+m))) (32*(k0+m)) off text)
theorem zH{st:List UInt8}{base k0 off:Nat}{text:List UInt8}:∀m,32*(base+(k0+m))<=st.length->(J9 st base k0 off text m).length=st.length
 |0,_=>rfl
 |m+1,h=>by
  have ih:=zH (st:=st) (base:=base) (k0:=k0) (off:=off) (text:=text) m (by omega);show(aX _ _ _).length=_;rw[fI,ih];rw[dX,ij (by omega),ih];omega
theorem DI{st:List UInt8}{base k0 off:Nat}{text:List UInt8}:∀m,32*(base+(k0+m))<=st.length->∀p,(J9 st base k0 off text m)[p]? =
  if(32*(base+k0)<=p/\p<32*(base+(k0+m)))/\32*base+off<=p/\p<32*base+off+text.length then text[p- (32*base+off)]? else st[p]?
 |0,_,p=>by rw[if_neg (by omega)];rfl
 |m+1,h,p=>by
  have hl:=zH (st:=st) (base:=base) (k0:=k0) (off:=off) (text:=text) m (by omega);have ih:=DI (st:=st) (base:=base) (k0:=k0) (off:=off) (text:=text) m (by omega) p;have hs:(sec st (base+(k0+m))).length=32:=ij (by omega);show(aX _ _ _)[p]? =_;rw[fN (by rw[dX,hs,hl];omega),dX,hs];by_cases h1:32*(base+(k0+m))<=p/\p<32*(base+(k0+m))+32
  ·rw[if_pos h1,oT _ _ _ _ _ (by omega)];by_cases h2:32*base+off<=p/\p<32*base+off+text.length
   ·rw[if_pos (by omega),if_pos (by omega)];congr 1;omega
   ·rw[if_neg (by omega),if_neg (by omega),kT (by omega)];congr 1;omega
  ·rw[if_neg h1,ih];by_cases h2:(32*(base+k0)<=p/\p<32*(base+(k0+m)))/\32*base+off<=p/\p<32*base+off+text.length
   ·rw[if_pos h2,if_pos (by omega)]
   ·rw[if_neg h2,if_neg (by omega)]
theorem Ka{st:List UInt8}{base off:Nat}{text:List UInt8}(hb:32*base+off+text.length<=st.length)(hs:32*(base+(off+text.length+31) / 32)<=st.length):
  J9 st base (off / 32) off text ((off+text.length+31) / 32-off / 32)=aX st (32*base+off) text:=by
 apply rC;intro p;have e:off / 32+((off+text.length+31) / 32-off / 32)=(off+text.length+31) / 32:=by omega
 rw[DI _ (by rw[e];exact hs),fN hb,e];by_cases h:32*base+off<=p/\p<32*base+off+text.length
 ·rw[if_pos (by omega),if_pos h]
 ·rw[if_neg (by omega),if_neg h]
theorem ia{st t:List UInt8}{o s:Nat}(h:o+t.length<=st.length)(hd:32*s+32<=o\/o+t.length<=32*s):sec (aX st o t) s=sec st s:=by
 apply rC;intro i;by_cases hi:i<32
 ·rw[kT hi,kT hi,fN h,if_neg (by omega)]
 ·unfold sec;rw[qC,qC,if_neg hi,if_neg hi]
theorem iQ{st t:List UInt8}{s:Nat}(ht:t.length=32)(h:32*s+32<=st.length):sec (aX st (32*s) t) s=t:=by
 apply rC;intro i;by_cases hi:i<32
 ·rw[kT hi,fN (by omega),if_pos (by omega)];congr 1;omega
 ·unfold sec;rw[qC,if_neg hi,pz (by omega)]
def half(st:List UInt8)(size h len:Nat):List UInt8:=(st.drop (32*(2+h*size))).take len
theorem mG{st:List UInt8}{size h len i:Nat}(hi:i<len):(half st size h len)[i]? =st[32*(2+h*size)+i]? :=by unfold half;rw[qC,if_pos hi,GI]
theorem sL{st t:List UInt8}{size h len o:Nat}(hb:o+t.length<=st.length)(hd:32*(2+h*size)+len<=o\/o+t.length<=32*(2+h*size)):half (aX st o t) size h len=half st size h len:=by
 apply rC;intro i;by_cases hi:i<len
 ·rw[mG hi,mG hi,fN hb,if_neg (by omega)]
 ·unfold half;rw[qC,qC,if_neg hi,if_neg hi]
theorem AM{st t:List UInt8}{size h len:Nat}(hb:32*(2+h*size)+len+t.length<=st.length):half (aX st (32*(2+h*size)+len) t) size h (len+t.length)=half st size h len++t:=by
 have hl:(half st size h len).length=len:=by unfold half;rw[jQ,zS];omega
 apply rC;intro i;by_cases hi:i<len+t.length
 ·rw[mG hi,fN hb];by_cases h1:i<len
  ·rw[if_neg (by omega),xL (by omega),mG h1]
  ·rw[if_pos (by omega),BW (by omega),hl];congr 1;omega
 ·unfold half;rw[qC,if_neg hi,pz];rw[fu,jQ,zS];omega
def dp(a b:List UInt8)(room:Nat):Option ((Nat×Nat×Nat)×Nat):=
 match bN a room,bN b room with
 |some v,none=>some (v,0)
 |some v,some w=>if w.1<=v.1 then some (v,0)else some (w,1)
 |none,some w=>some (w,1)
 |none,none=>if a=List.replicate 32 0\/b=List.replicate 32 0 then some ((0,0,0),0)else none
structure Found (n:Nat) (st:List UInt8) (v:Nat×Nat×Nat) (a:Nat) (bW:List (List UInt8)):Prop where
 mY:dp (sec st 0) (sec st 1) (32*((n-2) / 2))=some (v,a)
 split:da (half st ((n-2) / 2) v.2.1 v.2.2)=some bW
def cA(n base off:Nat)(text:List UInt8):List Nat->DD->DD×Int
 | [],d=>d.sync
 |k::r,d=>
  if(d.read n ((base+k:Nat):Int)).2=0 then
   (if(DD.write n d ((base+k:Nat):Int) (patch (d.read n ((base+k:Nat):Int)).1 (32*k) off text)).2=0 then
    cA n base off text r (DD.write n d ((base+k:Nat):Int) (patch (d.read n ((base+k:Nat):Int)).1 (32*k) off text)).1
   else DD.write n d ((base+k:Nat):Int) (patch (d.read n ((base+k:Nat):Int)).1 (32*k) off text))
  else(d,(d.read n ((base+k:Nat):Int)).2)
def cW(off len:Nat):List Nat:=List.range' (off / 32) ((off+len+31) / 32-off / 32)
def b9(n base off:Nat)(text:List UInt8)(d:DD):DD×Int:=if text= []then(d,0)else cA n base off text (cW off text.length) d
def qo(n s:Nat)(t:List UInt8)(d:DD):DD×Int:=if(DD.write n d (s:Int) t).2=0 then(DD.write n d (s:Int) t).1.sync else DD.write n d (s:Int) t
def de:List UInt8:=List.replicate 32 0
def mC(n a num h len:Nat)(d:DD):DD×Int:=
 if(qo n (1-a) de d).2=0 then qo n (1-a) (vt (num+1) h len++vt (num+1) h len) (qo n (1-a) de d).1 else qo n (1-a) de d
def cy(n a num h off:Nat)(text:List UInt8)(d:DD):DD×Int:=
 if(b9 n (2+h*((n-2) / 2)) off text d).2=0 then mC n a num h (off+text.length) (b9 n (2+h*((n-2) / 2)) off text d).1 else b9 n (2+h*((n-2) / 2)) off text d
def pL(st:List UInt8)(p:List (Nat×List UInt8)):List UInt8:=p.foldl (λs x=>aX s (32*x.1) x.2) st
theorem pN(st:List UInt8)(p:List (Nat×List UInt8))(x:Nat×List UInt8):pL st (p++ [x])=aX (pL st p) (32*x.1) x.2:=by unfold pL;rw[PA];rfl
theorem zq(st:List UInt8)(p:List (Nat×List UInt8))(ws bs:Nat):∀k,k<=p.length->k<=ws->rR st p ws bs k=pL st (p.take k)
 |0,_,_=>by rw[dT];rfl
 |k+1,h,hw=>by
  have ih:=zq st p ws bs k (by omega) (by omega);unfold rR;have hx:p[k]? =some p[k]:=eH (by omega);rw[hx];simp only;rw[if_pos (by omega),ih,M1 (by omega),pN]
theorem zA(st:List UInt8)(p:List (Nat×List UInt8))(bs:Nat):settled st p p.length bs=pL st p:=by unfold settled;rw[zq st p _ bs _ (aL _) (aL _),KK]
theorem zp{st:List UInt8}{p:List (Nat×List UInt8)}{N:Nat}(ws bs:Nat)(hl:st.length=N)(hp:∀x∈p,32*x.1+x.2.length<=N){q:Nat}(hq:∀x∈p,32*x.1<=q->q<32*x.1+x.2.length->x.2[q-32*x.1]? =st[q]?):∀k,(rR st p ws bs k).length=N/\(rR st p ws bs k)[q]? =st[q]?
 |0=>⟨hl,rfl⟩
 |k+1=>by
  obtain⟨h1,h2⟩:=zp ws bs hl hp hq k;unfold rR;cases hx:p[k]? with
  |none=>exact⟨h1,h2⟩
  |some x=>
   have hm:=ue hx;have hb:=hp x hm;simp only;split
   ·refine⟨by rw[fI _ _ _ (by omega)];exact h1, ?_⟩;rw[fN (by omega)];split
    ·rename_i hc;exact hq x hm hc.1 hc.2
    ·exact h2
   ·split
    ·have ht:(x.2.take bs).length<=x.2.length:=by rw[jQ];omega
     refine⟨by rw[fI _ _ _ (by omega)];exact h1, ?_⟩;rw[fN (by omega)];split
     ·rename_i hc;rw[jQ]at hc;rw[qC,if_pos (by omega)];exact hq x hm hc.1 (by omega)
     ·exact h2
    ·exact⟨h1,h2⟩
theorem Gt{d:DD}{s:Nat}(h:∀x∈d.aF,x.1≠s):d.text s=sec d.st s:=by
 unfold DD.text;cases hl:fR d.aF (s:Int)with
 |none=>rfl
 |some j=>obtain⟨m,x,_,hx,hxs⟩:=lX hl;exact absurd (by omega) (h x (ue hx))
theorem MA{n:Nat}{d:DD}{s:Nat}(hon:d.on=true)(hs:s<n)(h:∀x∈d.aF,x.1≠s):d.read n (s:Int)=(sec d.st s,0):=by
 have hb:DD.hasB n (s:Int)=true:=by unfold DD.hasB;simp;omega
 unfold DD.read;rw[if_pos hon,if_pos hb,tZ,Gt h]
theorem tW{n:Nat}{d:DD}{s:Nat}{t:List UInt8}(hon:d.on=true)(hs:s<n)(ht:t.length=32):
  (DD.write n d (s:Int) t=((d.push s t).tick,0)/\d.dh=false)\/(DD.write n d (s:Int) t=((d.push s t).fail d.writes d.bytes,21)/\d.dh=true):=by
 have hb:DD.hasB n (s:Int)=true:=by unfold DD.hasB;simp;omega
 unfold DD.write;rw[if_pos hon,if_pos ⟨hb,ht⟩];cases hf:d.dh with
 |true=>exact .inr ⟨by simp,rfl⟩
 |false=>exact .inl ⟨by simp,rfl⟩
theorem lh(d:DD):d.tick.on=d.on/\d.tick.st=d.st/\d.tick.aF=d.aF/\d.tick.bH=d.bH:=by unfold DD.tick;split<;>exact⟨rfl,rfl,rfl,rfl⟩
theorem MS{d:DD}(hon:d.on=true):
  (d.sync.2=0/\d.sync.1.on=true/\d.sync.1.aF= []/\d.sync.1.st=pL d.st d.aF/\d.sync.1.bH=d.bH/\d.dh=false)\/(d.sync=(d.fail d.writes d.bytes,21)/\d.dh=true):=by
 unfold DD.sync;rw[if_pos hon];cases hf:d.dh with
 |true=>exact .inr ⟨by simp,rfl⟩
 |false=>refine .inl ?_;obtain⟨h1,_,_,h4⟩:=lh d;rw[if_neg (by decide: ¬(false=true))];exact⟨rfl,by show d.tick.on=true;rw[h1];exact hon,rfl,zA _ _ _,h4,rfl⟩
theorem wD{d:DD}(hon:d.on=true)(x y:Int):(d.fail x y).on=false/\(d.fail x y).aF= []/\(d.fail x y).st=settled d.st d.aF (cj x) (bX y):=by unfold DD.fail;rw[if_pos hon];exact⟨rfl,rfl,rfl⟩
theorem lV{d:DD}(h:d.dh=true):d.bH=true:=by unfold DD.dh at h;rw[ua]at h;exact h.1
def Ends(n:Nat)(d:DD)(p:List (Nat×List UInt8))(r:DD×Int):Prop:=
 r.1.Ok n/\((r.2=0/\r.1.on=true/\r.1.aF= []/\r.1.st=pL d.st p/\r.1.bH=d.bH)\/
  (r.2=21/\d.bH=true/\r.1.on=false/\r.1.aF= []/\∃q ws bs,q <+:p/\bs<=32/\r.1.st=settled d.st q ws bs))
theorem pU(x:Int):bX x<=32:=by unfold bX;omega
theorem DD.Ok.RN{n:Nat}{d:DD}(h:d.Ok n):d.sync.1.Ok n:=by
 unfold DD.sync;split
 ·split
  ·exact h.fail _ _
  ·have ht:=h.tick
   have:=ht.settle d.aF.length 0 d.tick.on d.tick.bH;obtain⟨_,e2,e3,_⟩:=lh d;rw[e2,e3]at this;exact this
 ·exact h
theorem vK{n:Nat}{d d0:DD}{p:List (Nat×List UInt8)}(hok:d.Ok n)(hon:d.on=true)(hst:d.st=d0.st)(hp:d.aF=p)(ha:d.bH=d0.bH):Ends n d0 p d.sync:=by
 refine⟨DD.Ok.RN hok, ?_⟩;rcases MS hon with⟨h1,h2,h3,h4,h5,_⟩|⟨h1,h2⟩
 ·exact .inl ⟨h1,h2,h3,by rw[h4,hst,hp],h5.trans ha⟩
 ·rw[h1];obtain⟨f1,f2,f3⟩:=wD hon d.writes d.bytes;exact .inr ⟨rfl,by rw[<-ha];exact lV h2,f1,f2,p,_,_,List.prefix_refl _,pU _,by rw[f3,hst,hp]⟩
theorem pf{n base off:Nat}{text:List UInt8}{d0:DD}:∀(ks:List Nat) (d:DD) (pre:List (Nat×List UInt8)),d.Ok n->d.on=true->d.st=d0.st->d.aF=pre->d.bH=d0.bH->(∀k∈ks,base+k<n)->ks.Nodup->(∀k∈ks,∀x∈pre,x.1≠base+k)->pre.length+ks.length<1000000->
  Ends n d0 (pre++ks.map (λk=>(base+k,patch (sec d0.st (base+k)) (32*k) off text))) (cA n base off text ks d)
 | [],d,pre,hok,hon,hst,hp,ha,_,_,_,_=>by
  rw[NP,DS];exact vK hok hon hst hp ha
 |k::r,d,pre,hok,hon,hst,hp,ha,hks,hnd,hpre,hlen=>by
  have hk:base+k<n:=hks k (by simp);have hrd:=MA (d:=d) hon hk (by rw[hp];exact hpre k (by simp));have hsl:(sec d.st (base+k)).length=32:=ij (by rw[hok.len];omega);have hpl:(patch (sec d.st (base+k)) (32*k) off text).length=32:=by rw[dX,hsl]
  unfold cA;rw[hrd];simp only[uf];have hb:DD.hasB n ((base+k:Nat):Int)=true:=by unfold DD.hasB;simp;omega
  have hfew:d.aF.length<1000000:=by rw[hp];simp at hlen;omega
  have hpush:=hok.push hb hpl hfew;rcases tW (n:=n) (d:=d) (s:=base+k) hon hk hpl with⟨hw,_⟩|⟨hw,hf⟩
  ·rw[hw];simp only[uf];obtain⟨t1,t2,t3,t4⟩:=lh (d.push ((base+k:Nat):Int) (patch (sec d.st (base+k)) (32*k) off text))
   have:=pf (n:=n) (base:=base) (off:=off) (text:=text) (d0:=d0) r (d.push ((base+k:Nat):Int) (patch (sec d.st (base+k)) (32*k) off text)).tick (pre++ [(base+k,patch (sec d0.st (base+k)) (32*k) off text)]) hpush.tick (t1.trans hon) (t2.trans hst)
    (t3.trans (by show d.aF++ [_]=_;rw[hp,tZ,hst])) (t4.trans ha) (λj hj=>hks j (by simp[hj])) (NT.1 hnd).2
    (λj hj x hx=>by
     rcases zT.1 hx with hx|hx
     ·exact hpre j (by simp[hj]) x hx
     ·rw[vU]at hx;subst hx;intro e
      have:k=j:=by simp at e;omega
      subst this;exact(NT.1 hnd).1 hj)
    (by simp at hlen⊢;omega)
   rw[List.append_assoc]at this;exact this
  ·rw[hw];rw[if_neg (by show ¬((21:Int)=0);decide)];have hon2:(d.push ((base+k:Nat):Int) (patch (sec d.st (base+k)) (32*k) off text)).on=true:=hon;obtain⟨f1,f2,f3⟩:=wD hon2 d.writes d.bytes;refine⟨hpush.fail _ _, .inr ⟨rfl,by rw[<-ha];exact lV hf,f1,f2,pre++ [(base+k,patch (sec d0.st (base+k)) (32*k) off text)],cj d.writes,bX d.bytes, ?_,pU _, ?_⟩⟩
   ·rw[xJ];exact⟨r.map (λk=>(base+k,patch (sec d0.st (base+k)) (32*k) off text)),by rw[List.append_assoc];rfl⟩
   ·rw[f3];show settled d.st (d.aF++ [_]) _ _=_;rw[hp,hst,tZ]
theorem zg{n s:Nat}{t:List UInt8}{d:DD}(hok:d.Ok n)(hon:d.on=true)(hp:d.aF= [])(hs:s<n)(ht:t.length=32):Ends n d [(s,t)] (qo n s t d):=by
 have hb:DD.hasB n (s:Int)=true:=by unfold DD.hasB;simp;omega
 have hpush:=hok.push hb ht (by rw[hp];decide);unfold qo;rcases tW (n:=n) (d:=d) (s:=s) hon hs ht with⟨hw,_⟩|⟨hw,hf⟩
 ·rw[hw,if_pos rfl];obtain⟨t1,t2,t3,t4⟩:=lh (d.push (s:Int) t);exact vK hpush.tick (t1.trans hon) t2 (t3.trans (by show d.aF++ [_]=_;rw[hp,tZ];rfl)) t4
 ·rw[hw,if_neg (by show ¬((21:Int)=0);decide)];have hon2:(d.push (s:Int) t).on=true:=hon;obtain⟨f1,f2,f3⟩:=wD hon2 d.writes d.bytes;refine⟨hpush.fail _ _, .inr ⟨rfl,lV hf,f1,f2,[(s,t)],cj d.writes,bX d.bytes,List.prefix_refl _,pU _, ?_⟩⟩;rw[f3];show settled d.st (d.aF++ [_]) _ _=_;rw[hp,tZ];rfl
theorem xS{st:List UInt8}{base k0 off:Nat}{text:List UInt8}:∀m,pL st ((List.range' k0 m).map (λk=>(base+k,patch (sec st (base+k)) (32*k) off text)))=J9 st base k0 off text m
 |0=>rfl
 |m+1=>by
  rw[List.range'_concat,uE,List.map_singleton,pN,xS m];simp only[Nat.one_mul];rfl
theorem BK{n base off:Nat}{text:List UInt8}{d:DD}(hok:d.Ok n)(hon:d.on=true)(hp:d.aF= [])(ht:text≠ [])(hb:base+(off+text.length+31) / 32<=n):
  Ends n d ((cW off text.length).map (λk=>(base+k,patch (sec d.st (base+k)) (32*k) off text))) (b9 n base off text d)/\
   pL d.st ((cW off text.length).map (λk=>(base+k,patch (sec d.st (base+k)) (32*k) off text)))=aX d.st (32*base+off) text:=by
 have hlen:=hok.len;constructor
 ·unfold b9;rw[if_neg ht]
  have:=pf (n:=n) (base:=base) (off:=off) (text:=text) (d0:=d) (cW off text.length) d [] hok hon rfl hp rfl
   (λk hk=>by unfold cW at hk;rw[List.mem_range'_1]at hk;omega) (by unfold cW;exact List.nodup_range' (step:=1)) (λk hk x hx=>by cases hx) (by unfold cW;rw[Qa,qA];have:=hok.n2;omega)
  rw[xK]at this;exact this
 ·unfold cW;rw[xS,Ka (by omega) (by omega)]
theorem nN(st:List UInt8)(o:Nat):aX st o []=st:=by unfold aX;simp
theorem lu{st t:List UInt8}{s:Nat}(ht:t.length<=32)(h:32*s+32<=st.length):sec (aX st (32*s) t) s=t++(sec st s).drop t.length:=by
 apply rC;intro i;by_cases hi:i<32
 ·rw[kT hi,fN (by omega)];by_cases h1:i<t.length
  ·rw[if_pos (by omega),xL h1];congr 1;omega
  ·rw[if_neg (by omega),BW (by omega),GI,kT (by omega)];congr 1;omega
 ·rw[pz (by unfold sec;rw[jQ];omega),pz];rw[fu,zS,ij h];omega
theorem ri{st t:List UInt8}{s ws bs:Nat}{q:List (Nat×List UInt8)}(hq:q <+: [(s,t)])(hb:bs<=32)(ht:t.length=32):∃k,k<=32/\settled st q ws bs=aX st (32*s) (t.take k):=by
 obtain⟨r,hr⟩:=hq;cases q with
 |nil=>exact⟨0,by decide,by rw[dT,nN];rfl⟩
 |cons x q=>
  have e:x=(s,t)/\q= []:=by simp at hr;exact⟨hr.1,hr.2.1⟩
  obtain⟨rfl,rfl⟩:=e;unfold settled;show ∃k,k<=32/\rR st [(s,t)] ws bs 1=_;unfold rR;show ∃k,k<=32/\(if 0<ws then aX st (32*s) t else if 0=ws then aX st (32*s) (t.take bs)else st)=_;by_cases h:0<ws
  ·exact⟨32,by decide,by rw[if_pos h,np (by omega)]⟩
  ·exact⟨bs,hb,by rw[if_neg h,if_pos (by omega)]⟩
theorem Bi{s:List UInt8}{room:Nat}(h:s[0]? =some 0):bN s room=none:=by
 unfold bN;split
 ·have:cI (s.take 9)=none:=jn _ _ 0 (NQ.2 ⟨0,by rw[qC,if_pos (by decide)];exact h⟩) (by decide);rw[this]
 ·rfl
def nr(n:Nat)(st:List UInt8)(v:Nat×Nat×Nat)(a:Nat):Prop:=bN (sec st a) (32*((n-2) / 2))=some v\/(a=0/\v=(0,0,0)/\sec st 0=de)
theorem kO{a b:List UInt8}{room:Nat}{v:Nat×Nat×Nat}{at_:Nat}(h:dp a b room=some (v,at_)):
  (at_=0/\bN a room=some v)\/(at_=1/\bN b room=some v)\/(at_=0/\v=(0,0,0)/\bN a room=none/\bN b room=none):=by
 unfold dp at h;cases ha:bN a room with
 |none=>
  cases hb:bN b room with
  |none=>
   rw[ha,hb]at h;simp only at h;split at h
   ·cases h;exact .inr (.inr ⟨rfl,rfl,rfl,rfl⟩)
   ·cases h
  |some w=>rw[ha,hb]at h;cases h;exact .inr (.inl ⟨rfl,rfl⟩)
 |some u=>
  cases hb:bN b room with
  |none=>rw[ha,hb]at h;cases h;exact .inl ⟨rfl,rfl⟩
  |some w=>
   rw[ha,hb]at h;simp only at h;split at h
   ·cases h;exact .inl ⟨rfl,rfl⟩
   ·cases h;exact .inr (.inl ⟨rfl,rfl⟩)
theorem wU{a b:List UInt8}{room:Nat}{v:Nat×Nat×Nat}{at_:Nat}(h:dp a b room=some (v,at_)):at_=0\/at_=1:=by
 rcases kO h with h|h|h
 ·exact .inl h.1
 ·exact .inr h.1
 ·exact .inl h.1
theorem rb{s:List UInt8}{room:Nat}{v:Nat×Nat×Nat}(h:bN s room=some v):v.2.1<=1/\v.2.2<=room:=by
 unfold bN at h;split at h
 ·split at h
  ·cases h
  ·split at h
   ·cases h
   ·split at h
    ·split at h
     ·cases h
     ·split at h
      ·cases h;exact⟨by assumption,by assumption⟩
      ·cases h
    ·cases h
 ·cases h
theorem fE{a b:List UInt8}{room:Nat}{v:Nat×Nat×Nat}{at_:Nat}(h:dp a b room=some (v,at_)):v.2.1<=1/\v.2.2<=room:=by
 rcases kO h with h|h|h
 ·exact rb h.2
 ·exact rb h.2
 ·rw[h.2.1];exact⟨gu _,gu _⟩
theorem JH{st st':List UInt8}{room:Nat}{v w:Nat×Nat×Nat}{a:Nat}(h:dp (sec st 0) (sec st 1) room=some (v,a))(hk:sec st' a=sec st a)(hn:bN (sec st' (1-a)) room=some w)(hw:w.1=v.1+1):dp (sec st' 0) (sec st' 1) room=some (w,1-a):=by
 rcases kO h with⟨rfl,hv⟩|⟨rfl,hv⟩|⟨rfl,hz,hv,_⟩
 ·rw[hk];unfold dp;rw[hv,show bN (sec st' 1) room=some w from hn];simp only;rw[if_neg (by omega)]
 ·rw[hk];unfold dp;rw[hv,show bN (sec st' 0) room=some w from hn];simp only;rw[if_pos (by omega)]
 ·rw[hk];unfold dp;rw[hv,show bN (sec st' 1) room=some w from hn]
theorem vz{n:Nat}{st st':List UInt8}{v:Nat×Nat×Nat}{a:Nat}(h:dp (sec st 0) (sec st 1) (32*((n-2) / 2))=some (v,a))(hf:nr n st v a)(hk:sec st' a=sec st a)(hn:bN (sec st' (1-a)) (32*((n-2) / 2))=none):dp (sec st' 0) (sec st' 1) (32*((n-2) / 2))=some (v,a):=by
 rcases wU h with rfl|rfl
 ·rw[hk];unfold dp;rw[show bN (sec st' 1) (32*((n-2) / 2))=none from hn];rcases hf with hf|⟨_,hv,hf⟩
  ·rw[hf]
  ·rw[hf,show bN de (32*((n-2) / 2))=none from qZ _];simp only;rw[if_pos (.inl rfl),hv]
 ·rw[hk];unfold dp;rw[show bN (sec st' 0) (32*((n-2) / 2))=none from hn];rcases hf with hf|⟨h0,_⟩
  ·rw[hf]
  ·cases h0
theorem nr.bD{n:Nat}{st st':List UInt8}{v:Nat×Nat×Nat}{a:Nat}(hf:nr n st v a)(hk:sec st' a=sec st a):nr n st' v a:=by
 rcases hf with hf|⟨rfl,hv,hf⟩
 ·exact .inl (by rw[hk];exact hf)
 ·exact .inr ⟨rfl,hv,by rw[hk];exact hf⟩
theorem Ge{st st':List UInt8}{s:Nat}(h:∀q,32*s<=q->q<32*s+32->st'[q]? =st[q]?):sec st' s=sec st s:=by
 apply rC;intro i;by_cases hi:i<32
 ·rw[kT hi,kT hi];exact h _ (by omega) (by omega)
 ·unfold sec;rw[qC,qC,if_neg hi,if_neg hi]
theorem AL{st st':List UInt8}{size h len:Nat}(hq:∀q,32*(2+h*size)<=q->q<32*(2+h*size)+len->st'[q]? =st[q]?):half st' size h len=half st size h len:=by
 apply rC;intro i;by_cases hi:i<len
 ·rw[mG hi,mG hi];exact hq _ (by omega) (by omega)
 ·unfold half;rw[qC,qC,if_neg hi,if_neg hi]
theorem Found.bD{n:Nat}{st st':List UInt8}{v:Nat×Nat×Nat}{a:Nat}{bW:List (List UInt8)}(h:Found n st v a bW)(hp:dp (sec st' 0) (sec st' 1) (32*((n-2) / 2))=some (v,a))(hh:half st' ((n-2) / 2) v.2.1 v.2.2=half st ((n-2) / 2) v.2.1 v.2.2):Found n st' v a bW:=
 ⟨hp,by rw[hh];exact h.split⟩
def Changed(n:Nat)(d:DD)(v:Nat×Nat×Nat)(a:Nat)(bW:List (List UInt8))(w:Nat×Nat×Nat)(recs':List (List UInt8))(r:DD×Int):Prop:=
 r.1.Ok n/\((r.2=0/\r.1.on=true/\r.1.aF= []/\r.1.bH=d.bH/\Found n r.1.st w (1-a) recs'/\nr n r.1.st w (1-a))\/
  (r.2=21/\d.bH=true/\r.1.on=false/\r.1.aF= []/\(nr n d.st v a->(Found n r.1.st v a bW/\nr n r.1.st v a)\/(Found n r.1.st w (1-a) recs'/\nr n r.1.st w (1-a)))))
theorem zI{n base off:Nat}{text:List UInt8}{d:DD}(hok:d.Ok n)(hon:d.on=true)(hp:d.aF= [])(hb:base+(off+text.length+31) / 32<=n):
  (b9 n base off text d).1.Ok n/\(((b9 n base off text d).2=0/\(b9 n base off text d).1.on=true/\(b9 n base off text d).1.aF= []/\(b9 n base off text d).1.st=aX d.st (32*base+off) text/\(b9 n base off text d).1.bH=d.bH)\/
   ((b9 n base off text d).2=21/\d.bH=true/\(b9 n base off text d).1.on=false/\(b9 n base off text d).1.aF= []/\∀q,¬(32*base+off<=q/\q<32*base+off+text.length)->(b9 n base off text d).1.st[q]? =d.st[q]?)):=by
 by_cases ht:text= []
 ·unfold b9;rw[if_pos ht];exact⟨hok, .inl ⟨rfl,hon,hp,by rw[ht,nN],rfl⟩⟩
 ·obtain⟨⟨h1,h2⟩,h3⟩:=BK (n:=n) (base:=base) (off:=off) (text:=text) hok hon hp ht hb;refine⟨h1, ?_⟩;rcases h2 with⟨a1,a2,a3,a4,a5⟩|⟨a1,a2,a3,a4,q,ws,bs,a5,_,a6⟩
  ·exact .inl ⟨a1,a2,a3,by rw[a4,h3],a5⟩
  ·refine .inr ⟨a1,a2,a3,a4,λQ hQ=> ?_⟩;rw[a6];have hlen:=hok.len;have hmem:∀x∈q,∃k,k∈cW off text.length/\x=(base+k,patch (sec d.st (base+k)) (32*k) off text):=λx hx=>by
    obtain⟨k,hk,e⟩:=nS.1 (a5.subset hx);exact⟨k,hk,e.symm⟩
   have hkn:∀k∈cW off text.length,base+k<n:=λk hk=>by
    unfold cW at hk;rw[List.mem_range'_1]at hk;omega
   have hpl:∀k,base+k<n->(patch (sec d.st (base+k)) (32*k) off text).length=32:=λk hk=>by rw[dX,ij (by omega)]
   refine(zp (N:=32*n) ws bs hlen (λx hx=> ?_) (λx hx hq1 hq2=> ?_) _).2
   ·obtain⟨k,hk,rfl⟩:=hmem x hx;rw[hpl k (hkn k hk)]
    have:=hkn k hk;show 32*(base+k)+32<=32*n;omega
   ·obtain⟨k,hk,rfl⟩:=hmem x hx;have hk':=hkn k hk;have hq1:32*(base+k)<=Q:=hq1;have hq2:Q<32*(base+k)+32:=by rw[hpl k hk']at hq2;exact hq2
    show(patch (sec d.st (base+k)) (32*k) off text)[Q-32*(base+k)]? =_;rw[oT _ _ _ _ _ (by rw[ij (by omega)];omega),if_neg (by omega),kT (by omega)];congr 1;omega
theorem yf{n:Nat}{d:DD}{v:Nat×Nat×Nat}{a:Nat}{bW recs':List (List UInt8)}{h off:Nat}{text:List UInt8}(hok:d.Ok n)(hon:d.on=true)(hp:d.aF= [])(hn:4<=n)
  (hf:Found n d.st v a bW) (hnum:v.1<999999999) (hh:h<=1) (hroom:off+text.length<=32*((n-2) / 2)) (hfree:h=v.2.1->v.2.2<=off)
  (hnew:da (half (aX d.st (32*(2+h*((n-2) / 2))+off) text) ((n-2) / 2) h (off+text.length))=some recs'):
  Changed n d v a bW (v.1+1,h,off+text.length) recs' (cy n a v.1 h off text d):=by
 have hlen:=hok.len;have hn2:=hok.n2;have ha:=wU hf.mY;obtain⟨hv1,hv2⟩:=fE hf.mY;obtain⟨size,es⟩:=x_ ((n-2) / 2)
 have hsz:2+2*size<=n:=by omega
 have hz1:1<=size:=by omega
 obtain⟨b,eb⟩:=x_ (h*size)
 obtain⟨c,ec⟩:=x_ (v.2.1*size)
 have hb:(h=0/\b=0)\/(h=1/\b=size):=by
  have:h=0\/h=1:=by omega
  rcases this with rfl|rfl
  ·exact .inl ⟨rfl,by rw[eb];simp⟩
  ·exact .inr ⟨rfl,by rw[eb];simp⟩
 have hc:(v.2.1=0/\c=0)\/(v.2.1=1/\c=size):=by
  have:v.2.1=0\/v.2.1=1:=by omega
  rcases this with e|e
  ·exact .inl ⟨e,by rw[ec,e];simp⟩
  ·exact .inr ⟨e,by rw[ec,e];simp⟩
 rw[<-es]at hroom hv2 hnew;rw[<-eb]at hnew;have hdis:32*(2+c)+v.2.2<=32*(2+b)+off\/32*(2+b)+off+text.length<=32*(2+c):=by
  rcases hb with⟨h1,h2⟩|⟨h1,h2⟩<;>rcases hc with⟨h3,h4⟩|⟨h3,h4⟩
  ·left;have:=hfree (by omega);omega
  ·right;omega
  ·left;omega
  ·left;have:=hfree (by omega);omega
 have hbs:b<=size:=by omega
 have hcs:c<=size:=by omega
 obtain⟨s1,s2⟩:=zI (n:=n) (base:=2+b) (off:=off) (text:=text) hok hon hp (by omega);unfold cy;rw[<-es, <-eb];obtain⟨r1,er1⟩:=x_ (b9 n (2+b) off text d)
 rw[<-er1]at s1 s2⊢;have hW:(aX d.st (32*(2+b)+off) text).length=32*n:=by rw[fI _ _ _ (by omega)];exact hlen
 have hpres:=hf.mY;rw[<-es]at hpres;rcases s2 with⟨a1,a2,a3,a4,a5⟩|⟨a1,a2,a3,a4,a6⟩
 ·rw[if_pos a1];obtain⟨st1,est1⟩:=x_ (aX d.st (32*(2+b)+off) text)
  rw[<-est1]at a4 hW hnew;have k0:∀s,s<=1->sec st1 s=sec d.st s:=λs hs=>by rw[est1];exact ia (by omega) (by omega)
  have kh:half st1 size v.2.1 v.2.2=half d.st size v.2.1 v.2.2:=by rw[est1];exact sL (by omega) (by rw[<-ec];exact hdis)
  have f1:Found n st1 v a bW:=hf.bD (by rw[k0 0 (by omega),k0 1 (by omega)];exact hf.mY) (by rw[<-es];exact kh);have hfirm1:nr n d.st v a->nr n st1 v a:=λhfm=>hfm.bD (k0 a (by omega))
  -- the other sector is cleared
  have hb1:(1-a)<n:=by omega
  obtain⟨p1,p2⟩:=zg (n:=n) (s:=1-a) (t:=de) s1 a2 a3 hb1 (by unfold de;simp);unfold mC;obtain⟨r2,er2⟩:=x_ (qo n (1-a) de r1.1)
  rw[<-er2]at p1 p2⊢;have other:∀(st t:List UInt8),st.length=32*n->t.length<=32->sec (aX st (32*(1-a)) t) a=sec st a:=λst t hl ht=>ia (by omega) (by omega)
  have otherh:∀(st t:List UInt8) (x y:Nat),st.length=32*n->t.length<=32->half (aX st (32*(1-a)) t) size x y=half st size x y:=λst t x y hl ht=>sL (by omega) (.inr (by omega))
  rcases p2 with⟨b1,b2,b3,b4,b5⟩|⟨b1,b2,b3,b4,q,ws,bs,b5,b6,b7⟩
  ·rw[if_pos b1];have e2:r2.1.st=aX st1 (32*(1-a)) de:=by rw[b4,a4];rfl
   have l2:r2.1.st.length=32*n:=p1.len;have bl:de.length=32:=by unfold de;simp
   have s2a:sec r2.1.st a=sec d.st a:=by rw[e2,other _ _ hW (by omega),k0 a (by omega)]
   have s2b:sec r2.1.st (1-a)=de:=by rw[e2];exact iQ bl (by omega)
   have h2v:half r2.1.st size v.2.1 v.2.2=half d.st size v.2.1 v.2.2:=by rw[e2,otherh _ _ _ _ hW (by omega),kh]
   have h2n:half r2.1.st size h (off+text.length)=half st1 size h (off+text.length):=by rw[e2,otherh _ _ _ _ hW (by omega)]
   have vl:(vt (v.1+1) h (off+text.length)).length=16:=BV (by omega) hh (by omega);have vvl:(vt (v.1+1) h (off+text.length)++vt (v.1+1) h (off+text.length)).length=32:=by rw[fu,vl]
   obtain⟨q1,q2⟩:=zg (n:=n) (s:=1-a) (t:=vt (v.1+1) h (off+text.length)++vt (v.1+1) h (off+text.length)) p1 b2 b3 hb1 vvl;have hpv:bN (vt (v.1+1) h (off+text.length)++vt (v.1+1) h (off+text.length)) (32*size)=some (v.1+1,h,off+text.length):=JC (by omega) hh (by omega) hroom;obtain⟨vv,evv⟩:=x_ (vt (v.1+1) h (off+text.length)++vt (v.1+1) h (off+text.length))
   rw[<-evv]at q1 q2 vvl hpv⊢;obtain⟨r3,er3⟩:=x_ (qo n (1-a) vv r2.1)
   rw[<-er3]at q1 q2⊢;have full:∀st3,st3=aX r2.1.st (32*(1-a)) vv->Found n st3 (v.1+1,h,off+text.length) (1-a) recs'/\nr n st3 (v.1+1,h,off+text.length) (1-a):=λst3 e3=>by
    have s3a:sec st3 a=sec d.st a:=by rw[e3,other _ _ l2 (by omega),s2a]
    have s3b:sec st3 (1-a)=vv:=by rw[e3];exact iQ vvl (by omega)
    refine⟨⟨?_, ?_⟩, .inl ?_⟩
    ·exact JH hf.mY s3a (by rw[s3b, <-es];exact hpv) rfl
    ·rw[<-es];show da (half st3 size h (off+text.length))=_;rw[e3,otherh _ _ _ _ l2 (by omega),h2n];exact hnew
    ·rw[s3b, <-es];exact hpv
   refine⟨q1, ?_⟩;rcases q2 with⟨c1,c2,c3,c4,c5⟩|⟨c1,c2,c3,c4,q,ws,bs,c5,c6,c7⟩
   ·obtain⟨g1,g2⟩:=full r3.1.st (by rw[c4];rfl);exact .inl ⟨c1,c2,c3,by rw[c5,b5,a5],g1,g2⟩
   ·refine .inr ⟨c1,by rw[<-a5, <-b5];exact c2,c3,c4,λhfm=> ?_⟩;obtain⟨k,hk,ek⟩:=ri (st:=r2.1.st) (ws:=ws) c5 c6 vvl;rw[<-c7]at ek;by_cases hk32:k=32
    ·subst hk32;rw[np (by omega)]at ek;exact .inr (full _ ek)
    ·left;have tl:(vv.take k).length<=32:=by rw[jQ];omega
     have s3a:sec r3.1.st a=sec d.st a:=by rw[ek,other _ _ l2 tl,s2a]
     have s3b:sec r3.1.st (1-a)=vv.take k++List.replicate (32-k) 0:=by rw[ek,lu tl (by omega),s2b,jQ,Sf (by omega)];unfold de;rw[List.drop_replicate]
     refine⟨hf.bD (vz hf.mY hfm s3a (by rw[s3b];exact tp vv k _ vvl (by omega))) ?_,hfm.bD s3a⟩;rw[<-es,ek,otherh _ _ _ _ l2 tl,h2v]
  ·rw[if_neg (by rw[b1];decide)];refine⟨p1, .inr ⟨b1,by rw[<-a5];exact b2,b3,b4,λhfm=> .inl ?_⟩⟩;have bl:de.length=32:=by unfold de;simp
   obtain⟨k,hk,ek⟩:=ri (st:=r1.1.st) (ws:=ws) b5 b6 bl;rw[<-b7,a4]at ek;have tl:(de.take k).length<=32:=by rw[jQ];omega
   have s3a:sec r2.1.st a=sec d.st a:=by rw[ek,other _ _ hW tl,k0 a (by omega)]
   have h3:half r2.1.st size v.2.1 v.2.2=half d.st size v.2.1 v.2.2:=by rw[ek,otherh _ _ _ _ hW tl,kh]
   refine⟨hf.bD ?_ (by rw[<-es];exact h3),hfm.bD s3a⟩;by_cases hk0:k=0
   ·subst hk0;rw[dT,nN]at ek;rw[ek,k0 0 (by omega),k0 1 (by omega)];exact hf.mY
   ·refine vz hf.mY hfm s3a (Bi ?_);rw[ek,lu tl (by omega)];unfold de;rw[List.take_replicate,xL (by rw[List.length_replicate];omega),List.getElem?_replicate,if_pos (by omega)]
 ·rw[if_neg (by rw[a1];decide)];refine⟨s1, .inr ⟨a1,a2,a3,a4,λhfm=> .inl ?_⟩⟩;have k0:∀s,s<=1->sec r1.1.st s=sec d.st s:=λs hs=>Ge λq h1 h2=>a6 q (by omega)
  have kh:half r1.1.st size v.2.1 v.2.2=half d.st size v.2.1 v.2.2:=AL λq h1 h2=>a6 q (by rw[<-ec]at h1 h2;omega)
  exact⟨hf.bD (by rw[k0 0 (by omega),k0 1 (by omega)];exact hf.mY) (by rw[<-es];exact kh),hfm.bD (k0 a (by omega))⟩
theorem jI:∀f,cH f []=some []
 |0=>rfl
 |_+1=>rfl
theorem k8{f:Nat}{t:List UInt8}(h:t≠ []):cH (f+1) t=if t.length<4 then none else match cI (t.take 4)with
  |none=>none
  |some n=>if 2000<n\/t.length-4<n then none else(cH f (t.drop (4+n))).map (λr=>(t.drop 4).take n::r):=by
 rw[cH,if_neg h];rfl
theorem lg{f:Nat}{t:List UInt8}{r:List (List UInt8)}(h:cH (f+1) t=some r)(h0:t≠ []):∃n q,4<=t.length/\cI (t.take 4)=some n/\n<=2000/\4+n<=t.length/\cH f (t.drop (4+n))=some q/\r=(t.drop 4).take n::q:=by
 rw[k8 h0]at h;split at h
 ·cases h
 ·split at h
  ·cases h
  ·rename_i hl n hd;split at h
   ·cases h
   ·rename_i hn;cases hq:cH f (t.drop (4+n))with
    |none=>rw[hq]at h;cases h
    |some q=>
     rw[hq]at h;cases h
     exact⟨n,q,by omega,hd,by omega,by omega,hq,rfl⟩
theorem o9:∀(f:Nat) (t:List UInt8) (r:List (List UInt8)) (g:Nat),cH f t=some r->f<=g->cH g t=some r
 |0,t,r,g,h,_=>by
  unfold cH at h;split at h
  ·rename_i e;subst e;cases h;exact jI g
  ·cases h
 |f+1,t,r,g,h,hg=>by
  by_cases h0:t= []
  ·subst h0;rw[jI]at h⊢;exact h
  ·obtain⟨n,q,a1,a2,a3,a4,a5,rfl⟩:=lg h h0;cases g with
   |zero=>omega
   |succ g=>rw[k8 h0,if_neg (by omega),a2];simp only;rw[if_neg (by omega),o9 f _ q g a5 (by omega)];rfl
theorem pa:∀(f:Nat) (t:List UInt8) (r:List (List UInt8)) (g:Nat) (u:List UInt8) (q:List (List UInt8)),cH f t=some r->cH g u=some q->cH (f+g) (t++u)=some (r++q)
 |0,t,r,g,u,q,h,hu=>by
  unfold cH at h;split at h
  ·rename_i e;subst e;cases h;rw[nW];exact hu
  ·cases h
 |f+1,t,r,g,u,q,h,hu=>by
  by_cases h0:t= []
  ·subst h0;rw[jI]at h;cases h
   exact o9 g u q _ hu (by omega)
  ·obtain⟨n,q',a1,a2,a3,a4,a5,rfl⟩:=lg h h0;have h1:t++u≠ []:=λe=>h0 (List.append_eq_nil_iff.1 e).1
   have e1:(t++u).take 4=t.take 4:=P7 a1;have e2:(t++u).drop (4+n)=t.drop (4+n)++u:=List.drop_append_of_le_length a4;have e3:((t++u).drop 4).take n=(t.drop 4).take n:=by rw[List.drop_append_of_le_length a1];exact P7 (by rw[zS];omega)
   rw[show f+1+g=(f+g)+1 by omega,k8 h1,if_neg (by rw[fu];omega),e1,a2];simp only;rw[if_neg (by rw[fu];omega),e2,e3,pa f _ q' g u q a5 hu];rfl
theorem Bx{t u:List UInt8}{r q:List (List UInt8)}(h:da t=some r)(hu:da u=some q):da (t++u)=some (r++q):=by unfold da at*;rw[fu];exact pa _ t r _ u q h hu
theorem zG{b:List UInt8}(h:b.length<=2000):da (bR b)=some [b]:=by have:=xj (l:= [b]) (λx hx=>by rw[vU.1 hx];exact h);unfold gz at this;simpa using this
def dG:List (List UInt8)->Nat
 | []=>0
 |b::l=>4+b.length+dG l
theorem kR:∀(l m:List (List UInt8)),dG (l++m)=dG l+dG m
 | [],m=>by rw[xK];show _=0+_;omega
 |b::l,m=>by rw[xC];show 4+b.length+dG (l++m)=4+b.length+dG l+dG m;rw[kR l m];omega
theorem pd:∀(f:Nat) (t:List UInt8) (r:List (List UInt8)),cH f t=some r->t.length=dG r/\∀b∈r,b.length<=2000
 |0,t,r,h=>by
  unfold cH at h;split at h
  ·rename_i e;subst e;cases h;exact⟨rfl,λb hb=>by cases hb⟩
  ·cases h
 |f+1,t,r,h=>by
  by_cases h0:t= []
  ·subst h0;rw[jI]at h;cases h
   exact⟨rfl,λb hb=>by cases hb⟩
  ·obtain⟨n,q,a1,a2,a3,a4,a5,rfl⟩:=lg h h0;obtain⟨i1,i2⟩:=pd f _ q a5;have hl:((t.drop 4).take n).length=n:=by rw[jQ,zS];omega
   rw[zS]at i1;refine⟨?_,λb hb=> ?_⟩
   ·show _=4+((t.drop 4).take n).length+dG q;omega
   ·rcases lC.1 hb with rfl|hb
    ·omega
    ·exact i2 b hb
theorem BA{t:List UInt8}{r:List (List UInt8)}(h:da t=some r):t.length=dG r/\∀b∈r,b.length<=2000:=pd _ t r h
theorem IJ{st:List UInt8}{n:Nat}{v:Nat×Nat×Nat}{a:Nat}{bW:List (List UInt8)}(hl:st.length=32*n)(h:Found n st v a bW):(half st ((n-2) / 2) v.2.1 v.2.2).length=v.2.2:=by
 obtain⟨h1,h2⟩:=fE h.mY
 have:v.2.1*((n-2) / 2)<=(n-2) / 2:=by
  have:v.2.1=0\/v.2.1=1:=by omega
  rcases this with e|e<;>rw[e]<;>simp
 unfold half;rw[jQ,zS];generalize v.2.1*((n-2) / 2)=c at*;by_cases hn:4<=n
 ·omega
 ·have:(n-2) / 2=0:=by omega
  omega
theorem uX{st:List UInt8}{n:Nat}{v:Nat×Nat×Nat}{a:Nat}{bW:List (List UInt8)}(hl:st.length=32*n)(h:Found n st v a bW):v.2.2=dG bW/\∀b∈bW,b.length<=2000:=by obtain⟨h1,h2⟩:=BA h.split;exact⟨by rw[<-h1,IJ hl h],h2⟩
theorem vE{m s:Nat}(h:s<m):sec (List.replicate (32*m) 0) s=de:=by unfold sec de;rw[List.drop_replicate,List.take_replicate];congr 1;omega
theorem qm{n:Nat}(hn:4<=n):Found n (DD.new n).st (0,0,0) 0 []/\nr n (DD.new n).st (0,0,0) 0:=by
 have e0:sec (DD.new n).st 0=de:=vE (by omega);have e1:sec (DD.new n).st 1=de:=vE (by omega);refine⟨⟨?_, ?_⟩, .inr ⟨rfl,rfl,e0⟩⟩
 ·rw[e0,e1];unfold dp;rw[show bN de (32*((n-2) / 2))=none from qZ _];simp only;rw[if_pos (.inl rfl)]
 ·unfold half;rw[dT];rfl
theorem xT{n:Nat}{d:DD}{v:Nat×Nat×Nat}{a:Nat}{bW:List (List UInt8)}{b:List UInt8}(hok:d.Ok n)(hon:d.on=true)(hp:d.aF= [])(hn:4<=n)
  (hf:Found n d.st v a bW) (hnum:v.1<999999999) (hb:b.length<=2000) (hroom:v.2.2+(4+b.length)<=32*((n-2) / 2)):
  Changed n d v a bW (v.1+1,v.2.1,v.2.2+(bR b).length) (bW++ [b]) (cy n a v.1 v.2.1 v.2.2 (bR b) d):=by
 have hfl:=kF hb;obtain⟨h1,_⟩:=fE hf.mY;refine yf hok hon hp hn hf hnum h1 (by omega) (λ_=>aL _) ?_;have hlen:=hok.len
 have:v.2.1*((n-2) / 2)<=(n-2) / 2:=by
  have:v.2.1=0\/v.2.1=1:=by omega
  rcases this with e|e<;>rw[e]<;>simp
 rw[AM (by generalize v.2.1*((n-2) / 2)=c at*;omega)];exact Bx hf.split (zG hb)
end Go.Jn
