import Derived.Test.YthnhboimcidhgaaGreatDoorEvA
namespace Go.Aug
def Z65:List DV:=[.v (.int .u64 1),.v (.int .u64 10),.v (.int .u64 100),.v (.int .u64 1000),.v (.int .u64 10000),.v (.int .u64 100000),.v (.int .u64 1000000),.v (.int .u64 10000000),.v (.int .u64 100000000),.v (.int .u64 1000000000),.v (.int .u64 10000000000),.v (.int .u64 100000000000),.v (.int .u64 1000000000000),.v (.int .u64 10000000000000),.v (.int .u64 100000000000000),.v (.int .u64 1000000000000000),.v (.int .u64 10000000000000000),.v (.int .u64 100000000000000000),.v (.int .u64 1000000000000000000),.v (.int .u64 10000000000000000000)]
def Z1r (g:Nat):Option (List DV):=if g=1 then some Z65 else none
def Z8b (g:Nat):Bool:=Nat.beq g 0
def G6 (_:Nat):Bool:=true
end Go.Aug
