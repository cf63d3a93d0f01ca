/- Lemmas on which SessionPins rests. -/
import Derived.Test.YtcjcibnggioknaaGreatDoorZ15
set_option maxRecDepth 100000
set_option maxHeartbeats 40000000
set_option linter.unusedVariables false
open Go.RowKit Go.Spk
open Go.Proofs.Tryz
namespace Go.Proofs.P.LitA
open Go.Proofs.P
def ml:ByteArray:=⟨#[99]⟩
def lT:ByteArray:=⟨#[115]⟩
def kJ:ByteArray:=⟨#[97]⟩
def kU:ByteArray:=⟨#[98]⟩
def host:List Int:= [1,2,3,0,0,0,0,0,0,0,0,0,0,0,0,0,0,0,0,0,0,0,0,0,0,0,0,0,0,0,0,0]
def BT:List Int:= [164,93,65,73,183,230,170,138,73,4,131,217,144,203,218,171]
def AB:List Int:= [104,0,158,214,230,251,96,226,85,30,243,144,201,4,7,27]
def vy:List Int:= [77,248,108,72,235,126,45,60,73,183,114,23,82,237,166,225,201,12,151,192,188,253,57,171,42,239,9,161,163,75,229,59]
def yO:List Int:= [69,122,47,175,88,152,25,161,1,236,45,148,26,9,10,219,17,148,255,185,114,145,83,139,10,189,114,120,155,134,71,128]
def pC:List Int:= [148,125,179,21,138,18,86,110,70,29,114,179,203,41,90,251,107,134,35,94,36,161,20,45,73,137,159,193,100,211,158,46]
def pS:List Int:= [37,150,235,211,174,140,238,173,29,66,127,242,1,131,191,73,87,229,187,251,42,123,94,64,179,198,13,249,6,149,154,109]
def shr:Nat:=34610356285201934133292850961402851965043213328501678722854121123713842723035
def sec:List Int:= [219,184,80,246,236,32,63,90,86,31,85,75,66,177,225,68,127,207,160,231,230,113,82,206,164,182,4,27,120,196,132,76]
def key:List Int:= [34,31,229,246,133,154,26,79,236,121,5,124,157,50,200,211,252,53,110,20,75,29,163,176,249,1,110,246,242,152,136,218]
def hash:List Int:= [234,34,75,90,201,9,93,43,129,102,60,138,88,190,223,67,115,142,139,104,248,73,33,95,238,76,98,43,29,53,26,158]
def sig:List Int:= [213,76,214,72,171,106,51,247,6,200,199,113,103,160,28,47,248,198,140,114,123,101,150,220,123,253,205,47,144,141,225,95,158,47,106,41,139,38,39,216,234,103,184,35,2,39,121,36,234,126,32,32,81,39,76,59,140,70,144,206,219,119,126,1]
theorem EH:eP (bI kJ) (oG++ [0]) 16=BT:=by decide+kernel
theorem EI:eP (bI kU) (oG++ [0]) 16=AB:=by decide+kernel
theorem EL:eP (bI kJ) (mC++ [0]) 32=vy:=by decide+kernel
theorem EM:eP (bI kU) (mC++ [0]) 32=yO:=by decide+kernel
theorem MM:mJ vy=pC:=by decide+kernel
theorem MN:mJ yO=pS:=by decide+kernel
theorem zC:di vy pS=shr:=by decide+kernel
theorem IJ:di yO pC=shr:=by decide+kernel
theorem FC:shr≠0:=an
theorem Fz:eE shr=sec:=by decide+kernel
theorem tK:lX host=key:=by decide+kernel
def told:List Int:=cG (fH++ml)++cG (fH++lT)++cG (db (iZ BT))++cG (db (iZ AB))++cG (dB key)++gN pC++gN pS++gN (vY sec)
theorem zO:mj false told=hash:=by decide+kernel
theorem FD:qX host hash=sig:=by decide+kernel
theorem fits:je key hash sig=true:=by decide+kernel
end Go.Proofs.P.LitA
namespace Go.Proofs.P.LitP
open Go.Proofs.P
def ml:ByteArray:=⟨#[99]⟩
def lT:ByteArray:=⟨#[115]⟩
def kJ:ByteArray:=⟨#[120]⟩
def kU:ByteArray:=⟨#[121]⟩
def host:List Int:= [1,2,3,0,0,0,0,0,0,0,0,0,0,0,0,0,0,0,0,0,0,0,0,0,0,0,0,0,0,0,0,0]
def BT:List Int:= [148,184,162,104,37,154,81,139,203,116,123,194,230,114,171,42]
def AB:List Int:= [230,11,129,11,18,161,116,15,39,96,129,191,40,164,214,254]
def vy:List Int:= [4,254,196,46,132,45,100,170,149,20,25,167,24,111,98,56,69,201,173,225,87,221,188,112,225,117,172,21,230,156,87,182]
def yO:List Int:= [123,65,177,163,70,8,41,125,214,170,87,215,30,32,5,163,74,95,39,30,229,69,145,21,252,10,117,207,151,16,243,220]
def pC:List Int:= [177,138,57,217,192,201,187,239,62,107,130,11,148,2,13,195,112,245,79,155,105,205,230,238,143,116,160,192,229,226,186,102]
def pS:List Int:= [139,163,233,28,140,76,203,237,222,247,142,53,161,171,80,63,13,196,186,45,250,38,177,220,209,214,164,144,40,222,1,127]
def shr:Nat:=14081796980236558966998497703500399010257659772557528724275904936527232440678
def sec:List Int:= [102,25,227,94,104,29,93,206,187,255,4,163,106,195,87,207,168,204,141,9,18,148,40,38,159,59,223,183,191,3,34,31]
def key:List Int:= [34,31,229,246,133,154,26,79,236,121,5,124,157,50,200,211,252,53,110,20,75,29,163,176,249,1,110,246,242,152,136,218]
def hash:List Int:= [56,113,116,151,61,64,209,194,225,143,24,20,224,2,0,251,173,132,212,45,32,145,25,254,199,226,55,199,151,35,65,159]
def sig:List Int:= [252,229,77,136,57,188,99,240,207,167,135,58,36,57,175,118,65,165,232,14,213,253,99,10,205,115,252,45,154,194,250,166,172,15,7,104,11,130,62,225,232,231,217,141,23,236,216,2,223,242,210,34,204,90,235,92,181,161,63,80,64,159,153,11]
theorem EH:eP (bI kJ) (oG++ [0]) 16=BT:=by decide+kernel
theorem EI:eP (bI kU) (oG++ [0]) 16=AB:=by decide+kernel
theorem EL:eP (bI kJ) (mC++ [0]) 32=vy:=by decide+kernel
theorem EM:eP (bI kU) (mC++ [0]) 32=yO:=by decide+kernel
theorem MM:mJ vy=pC:=by decide+kernel
theorem MN:mJ yO=pS:=by decide+kernel
theorem zC:di vy pS=shr:=by decide+kernel
theorem IJ:di yO pC=shr:=by decide+kernel
theorem FC:shr≠0:=an
theorem Fz:eE shr=sec:=by decide+kernel
theorem tK:lX host=key:=by decide+kernel
def told:List Int:=cG (fH++ml)++cG (fH++lT)++cG (db (iZ BT))++cG (db (iZ AB))++cG (dB key)++gN pC++gN pS++gN (vY sec)
theorem zO:mj false told=hash:=by decide+kernel
theorem FD:qX host hash=sig:=by decide+kernel
theorem fits:je key hash sig=true:=by decide+kernel
end Go.Proofs.P.LitP
