import Derived.Test.YtlighhlnmglpfaaGreatQSb
set_option linter.all false
set_option maxRecDepth 100000
namespace Go.PW
def akV(k:Z6):Zg:=⟨k.answers,k.pending,k.waits,k.bad,k.used⟩
def vlB(n:Nat)(a:List Int):Bool:=decide (a.length=1)&&a.all fun x=>decide (0≤x∧x < (n:Int))
theorem Zawi{n:Nat}{a:List Int}:vlB n a=true↔a.length=1∧∀ x,x∈a→0≤x∧x < (n:Int):=by
 unfold vlB
 rw [Bool.and_eq_true,decide_eq_true_eq,List.all_eq_true]
 refine and_congr_right fun _=>⟨fun h x hx=>of_decide_eq_true (h x hx),fun h x hx=>decide_eq_true (h x hx)⟩
def Z47(w:Zg)(c:Zm):List Int×Zg:=
 if c.Options.length≤1∨w.Waits=true∨w.Wrong=true then ([0],w)
 else if (w.Answers.length:Int)≤w.N then ([0],⟨w.Answers,c,true,w.Wrong,w.N⟩)
 else match w.Answers[w.N.toNat]? with
  | some a=>if vlB c.Options.length a then (a,⟨w.Answers,w.Choice,w.Waits,w.Wrong,w.N+1⟩) else ([0],⟨w.Answers,w.Choice,w.Waits,true,w.N+1⟩)
  | none=>([0],w)
def tgO(o:Zi):Zf:=if o.Kind=5 then ⟨o.A,0⟩ else ⟨0,o.A⟩
def Zyw(l:List Zi)(a:List Int):Zi:=match a[0]? with
 | some i=>if 0≤i∧i < (l.length:Int) then l[i.toNat]?.getD (l[0]?.getD ⟨0,0,0⟩) else l[0]?.getD ⟨0,0,0⟩
 | none=>l[0]?.getD ⟨0,0,0⟩
def chG(s:Zb)(all:List Za)(c:Zj):List Zr→List Zf→Zg→List Zf×Bool×Zg
 | [],acc,w=>(acc,true,w)
 | sp::sps,acc,w=>if lgV s all c sp=[] then ([],false,w) else
  chG s all c sps (acc++[tgO (Zyw (lgV s all c sp) (Z47 w ⟨2,c.You,c.Source,0,0,0,lgV s all c sp⟩).1)]) (Z47 w ⟨2,c.You,c.Source,0,0,0,lgV s all c sp⟩).2
theorem Zbib{s:Zb}{all:List Za}{c:Zj}{sps:List Zr}{acc:List Zf}{w:Zg}{v:Int}{z:List Zf×Bool×Zg}(h:chG s all c (sps.drop v.toNat) acc w=z)(hv:(sps.length:Int)≤v):(acc,true,w)=z:=by
 rw [List.drop_eq_nil_of_le (by omega)] at h;exact h
theorem Zbjp{s:Zb}{all:List Za}{c:Zj}{sps:List Zr}{acc:List Zf}{w:Zg}{v:Int}{z:List Zf×Bool×Zg}{sp:Zr}(hx:sps[v.toNat]?=some sp)(h:chG s all c (sps.drop v.toNat) acc w=z){l:List Zi}(hl:l=lgV s all c sp)(hn:(l.length:Int)=0):([],false,w)=z:=by
 obtain⟨hi,he⟩:=List.getElem?_eq_some_iff.1 hx
 rw [List.drop_eq_getElem_cons hi,he] at h
 unfold chG at h
 rw [if_pos (by rw [← hl];exact List.length_eq_zero_iff.1 (by omega))] at h;exact h
theorem Zbf4{s:Zb}{all:List Za}{c:Zj}{sps:List Zr}{acc acc':List Zf}{w w':Zg}{v v':Int}{z:List Zf×Bool×Zg}{sp:Zr}{l:List Zi}{a:List Int}{o:Zi}{t:Zf}
 (hx:sps[v.toNat]?=some sp) (h:chG s all c (sps.drop v.toNat) acc w=z) (h0:0≤v) (hl:l=lgV s all c sp) (hn:¬ (l.length:Int)=0) (hp:(a,w')=Z47 w ⟨2,c.You,c.Source,0,0,0,l⟩) (ho:o=Zyw l a) (ha:acc'=acc++[t]) (ht:t=tgO o) (hv:v'=v+1):chG s all c (sps.drop v'.toNat) acc' w'=z:=by
 obtain⟨hi,he⟩:=List.getElem?_eq_some_iff.1 hx
 rw [List.drop_eq_getElem_cons hi,he] at h
 unfold chG at h
 rw [if_neg (by rw [← hl];intro e;apply hn;rw [e];rfl),← hl,← hp] at h
 rw [← h,ha,ht,ho,show v'.toNat=v.toNat+1 by omega]
theorem Zbjq{l:List Zi}{a:List Int}{o:Zi}(ho:l[(0:Int).toNat]?=some o)(h:¬ (a.length:Int) > 0):o=Zyw l a:=by
 unfold Zyw
 rw [List.length_eq_zero_iff.1 (show a.length=0 by omega)]
 have ho:l[0]?=some o:=ho
 simp [ho]
theorem Zbjr{l:List Zi}{a:List Int}{o:Zi}{i:Int}(ho:l[(0:Int).toNat]?=some o)(hi:a[(0:Int).toNat]?=some i)(h:¬ i≥0∨¬ i < (l.length:Int)):o=Zyw l a:=by
 unfold Zyw
 have ho:l[0]?=some o:=ho
 have hi:a[0]?=some i:=hi
 rw [hi]
 show o=if _ then _ else _
 rw [if_neg (by omega),ho];rfl
theorem Zbjs{l:List Zi}{a:List Int}{o:Zi}{i:Int}(ho:l[i.toNat]?=some o)(hi:a[(0:Int).toNat]?=some i)(h0:i≥0)(h:i < (l.length:Int)):o=Zyw l a:=by
 unfold Zyw
 have hi:a[0]?=some i:=hi
 rw [hi]
 show o=if _ then _ else _
 rw [if_pos (by omega),ho];rfl
theorem Zbic{s:Zb}{all:List Za}{c:Zj}{sps:List Zr}{acc acc':List Zf}{w:Zg}{v v':Int}{z:List Zf×Bool×Zg}{o:Zi}{t:Zf}
 (h:chG s all c (sps.drop (v+1).toNat) (acc++[tgO o]) w=z) (ha:acc'=acc++[t]) (ht:t=tgO o) (hv:v'=v+1):chG s all c (sps.drop v'.toNat) acc' w=z:=by rw [ha,ht,hv];exact h
abbrev Zh7:Zm:=⟨0,0,0,0,0,0,[]⟩
def nwV(a:List (List Int)):Zg:=⟨a,Zh7,false,false,0⟩
theorem Zbid{a l:List (List Int)}{b:Z6}{v w:Int}{x y:List Int}{z:List (List Int)}(hb:b=⟨a.take v.toNat,0,Zh7,false,false⟩)(hl:l=a)(hx:l[v.toNat]?=some x)(h0:0≤v)(hz:z=b.answers++[y])(hy:y=x)(hw:w=v+1):(⟨z,b.used,b.pending,b.waits,b.bad⟩:Z6)=⟨a.take w.toNat,0,Zh7,false,false⟩:=by
 subst hl;rw [hz,hy,hb,Zd3 hx h0 hw]
theorem Zbjt{a:List (List Int)}{b:Z6}{v:Int}(hb:b=⟨a.take v.toNat,0,Zh7,false,false⟩)(h:(a.length:Int)≤v):akV b=nwV a:=by rw [hb,List.take_of_length_le (by omega)];rfl
theorem Zbf5{l:List (List Int)}{b:Zg}{v w:Int}{x y:List Int}{z:List (List Int)}(hb:b=⟨l.take v.toNat,Zh7,false,false,0⟩)(hx:l[v.toNat]?=some x)(h0:0≤v)(hz:z=b.Answers++[y])(hy:y=x)(hw:w=v+1):(⟨z,b.Choice,b.Waits,b.Wrong,b.N⟩:Zg)=⟨l.take w.toNat,Zh7,false,false,0⟩:=by
 rw [hz,hy,hb,Zd3 hx h0 hw]
theorem Zbie{a:List (List Int)}{b:Zg}{v:Int}(hb:b=⟨a.take v.toNat,Zh7,false,false,0⟩)(h:(a.length:Int)≤v):b=nwV a:=by rw [hb,List.take_of_length_le (by omega)];rfl
theorem Zble{o:Zi}(h:o.Kind=5):(⟨o.A,0⟩:Zf)=tgO o:=by unfold tgO;rw [if_pos h]
theorem Zblf{o:Zi}(h:¬ o.Kind=5):(⟨0,o.A⟩:Zf)=tgO o:=by unfold tgO;rw [if_neg h]
end Go.PW
